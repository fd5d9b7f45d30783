/-
  Texts joined: LawEq2, LawEq3, Mon1, ImpD, LawTo, LawTo2, LawTo3, Reg.
-/
import Derived.Test.YtncoiknpkebgoaaPkWn3
import Derived.Deep.RegionHeld3
namespace Go.Proofs.Ytncoiknpkebgoaa
set_option maxRecDepth 100000
set_option linter.unusedSimpArgs false
set_option linter.unusedVariables false
open Go.RowKit Go
set_option maxHeartbeats 400000

/-! ### sizes: what fits, and what does not -/
theorem szIntS_y (A : Option Addr) (c n : Nat) (xs : List Int) (l : Int) (w : World) (hxs : RI w 0 A c n xs) (h1 : l ≤ 1048576) (hle : (n : Int) ≤ l) : Calls Try.prog 69 #[.slice A n c, .int .i64 l] w fun E w' => E = .returned (.int .i64 (l - n)) ∧ w = w' :=
  (szIntS_c A c n xs l w hxs (by omega) h1).mono fun E w' ⟨h, k⟩ => ⟨by rw [h, if_neg (by omega)], k⟩
theorem szIntS_n (A : Option Addr) (c n : Nat) (xs : List Int) (l : Int) (w : World) (hxs : RI w 0 A c n xs) (h0 : 0 ≤ l) (h1 : l ≤ 1048576) (hle : l < n) : Calls Try.prog 69 #[.slice A n c, .int .i64 l] w fun E w' => E = .returned (.int .i64 (-1)) ∧ w = w' :=
  (szIntS_c A c n xs l w hxs (by omega) h1).mono fun E w' ⟨h, k⟩ => ⟨by rw [h, if_pos (by omega)], k⟩
theorem szEnt_y (A : Option Addr) (c n : Nat) (xs : List Sw.Ent) (l : Int) (w : World) (hxs : RE w 0 A c n xs) (h1 : l ≤ 1048576) (hle : (n : Int) ≤ l) : Calls Try.prog 117 #[.slice A n c, .int .i64 l] w fun E w' => E = .returned (.int .i64 (l - n)) ∧ w = w' :=
  (szEntEntryS_c A c n xs l w hxs (by omega) h1).mono fun E w' ⟨h, k⟩ => ⟨by rw [h, if_neg (by omega)], k⟩
theorem szEnt_n (A : Option Addr) (c n : Nat) (xs : List Sw.Ent) (l : Int) (w : World) (hxs : RE w 0 A c n xs) (h0 : 0 ≤ l) (h1 : l ≤ 1048576) (hle : l < n) : Calls Try.prog 117 #[.slice A n c, .int .i64 l] w fun E w' => E = .returned (.int .i64 (-1)) ∧ w = w' :=
  (szEntEntryS_c A c n xs l w hxs (by omega) h1).mono fun E w' ⟨h, k⟩ => ⟨by rw [h, if_pos (by omega)], k⟩
theorem szDeal_y (A : Option Addr) (c n : Nat) (xs : List Sw.Deal) (l : Int) (w : World) (hxs : RDl w 0 A c n xs) (h1 : l ≤ 1048576) (hle : (n : Int) ≤ l) : Calls Try.prog 118 #[.slice A n c, .int .i64 l] w fun E w' => E = .returned (.int .i64 (l - n)) ∧ w = w' :=
  (szMktDealS_c A c n xs l w hxs (by omega) h1).mono fun E w' ⟨h, k⟩ => ⟨by rw [h, if_neg (by omega)], k⟩
theorem szDeal_n (A : Option Addr) (c n : Nat) (xs : List Sw.Deal) (l : Int) (w : World) (hxs : RDl w 0 A c n xs) (h0 : 0 ≤ l) (h1 : l ≤ 1048576) (hle : l < n) : Calls Try.prog 118 #[.slice A n c, .int .i64 l] w fun E w' => E = .returned (.int .i64 (-1)) ∧ w = w' :=
  (szMktDealS_c A c n xs l w hxs (by omega) h1).mono fun E w' ⟨h, k⟩ => ⟨by rw [h, if_pos (by omega)], k⟩
theorem szLine_y (A : Option Addr) (c n : Nat) (xs : List Sw.Req) (l : Int) (w : World) (hxs : RQ w 0 A c n xs) (h1 : l ≤ 1048576) (hle : (n : Int) ≤ l) : Calls Try.prog 70 #[.slice A n c, .int .i64 l] w fun E w' => E = .returned (.int .i64 (l - n)) ∧ w = w' :=
  (szWldLineS_c A c n xs l w hxs (by omega) h1).mono fun E w' ⟨h, k⟩ => ⟨by rw [h, if_neg (by omega)], k⟩
theorem szLine_n (A : Option Addr) (c n : Nat) (xs : List Sw.Req) (l : Int) (w : World) (hxs : RQ w 0 A c n xs) (h0 : 0 ≤ l) (h1 : l ≤ 1048576) (hle : l < n) : Calls Try.prog 70 #[.slice A n c, .int .i64 l] w fun E w' => E = .returned (.int .i64 (-1)) ∧ w = w' :=
  (szWldLineS_c A c n xs l w hxs (by omega) h1).mono fun E w' ⟨h, k⟩ => ⟨by rw [h, if_pos (by omega)], k⟩

theorem szMkt_y (aL : Option Addr) (aLc aLn : Nat) (aP : Option Addr) (aPc aPn : Nat) (aD : Option Addr) (aDc aDn : Nat) (aN : Option Addr) (aNc aNn : Nat) (aS : Option Addr) (aSc aSn : Nat) (m : Sw.Mkt) (l : Int) (w : World) (hm : RM w 0 aL aLc aLn aP aPc aPn aD aDc aDn aN aNc aNn aS aSc aSn m) (h1 : l ≤ 1048576) (hle : (aLn : Int) + aPn + aDn + aNn + aSn ≤ l) : Calls Try.prog 43 #[.agg #[.slice aL aLn aLc, .slice aP aPn aPc, .slice aD aDn aDc, .int .i64 m.clock, .slice aN aNn aNc, .slice aS aSn aSc], .int .i64 l] w fun E w' => E = .returned (.int .i64 (l - (aLn + aPn + aDn + aNn + aSn))) ∧ Ex w w' := by
  obtain ⟨m1, m2, m3, m4, m5⟩ := hm
  go_enter Try.func43, Try.ntmps43
  go_wp2_with (first | (go_at_call 117; apply Calls.mono; apply szEnt_y; ((first | (apply Rs.at0; assumption) | (apply Ow.rs0; assumption)); exact kf_); (first | assumption | omega); (first | assumption | omega); rintro E w' ⟨rfl, rfl⟩) | (go_at_call 69; apply Calls.mono; apply szIntS_y; ((first | (apply Rs.at0; assumption) | (apply Ow.rs0; assumption)); exact kf_); (first | assumption | omega); (first | assumption | omega); rintro E w' ⟨rfl, rfl⟩) | (go_at_call 118; apply Calls.mono; apply szDeal_y; ((first | (apply Rs.at0; assumption) | (apply Ow.rs0; assumption)); exact kf_); (first | assumption | omega); (first | assumption | omega); rintro E w' ⟨rfl, rfl⟩))
  all_goals (go_ret; exact ⟨ret_i (by omega), ext_⟩)
theorem szMkt_n (aL : Option Addr) (aLc aLn : Nat) (aP : Option Addr) (aPc aPn : Nat) (aD : Option Addr) (aDc aDn : Nat) (aN : Option Addr) (aNc aNn : Nat) (aS : Option Addr) (aSc aSn : Nat) (m : Sw.Mkt) (l : Int) (w : World) (hm : RM w 0 aL aLc aLn aP aPc aPn aD aDc aDn aN aNc aNn aS aSc aSn m) (h0 : 0 ≤ l) (h1 : l ≤ 1048576) (hle : l < aLn + aPn + aDn + aNn + aSn) : Calls Try.prog 43 #[.agg #[.slice aL aLn aLc, .slice aP aPn aPc, .slice aD aDn aDc, .int .i64 m.clock, .slice aN aNn aNc, .slice aS aSn aSc], .int .i64 l] w fun E w' => E = .returned (.int .i64 (-1)) ∧ Ex w w' := by
  obtain ⟨m1, m2, m3, m4, m5⟩ := hm
  rcases (show l < aLn ∨ (aLn ≤ l ∧ l < aLn + aPn) ∨ (aLn + aPn ≤ l ∧ l < aLn + aPn + aDn) ∨ (aLn + aPn + aDn ≤ l ∧ l < aLn + aPn + aDn + aNn) ∨ (aLn + aPn + aDn + aNn ≤ l) by omega) with h2 | ⟨h2, h3⟩ | ⟨h2, h3⟩ | ⟨h2, h3⟩ | h2
  all_goals
    go_enter Try.func43, Try.ntmps43
    go_wp2_with (first | (go_at_call 117; apply Calls.mono; apply szEnt_y; ((first | (apply Rs.at0; assumption) | (apply Ow.rs0; assumption)); exact kf_); (first | assumption | omega); (first | assumption | omega); rintro E w' ⟨rfl, rfl⟩) | (go_at_call 117; apply Calls.mono; apply szEnt_n; ((first | (apply Rs.at0; assumption) | (apply Ow.rs0; assumption)); exact kf_); (first | assumption | omega); (first | assumption | omega); (first | assumption | omega); rintro E w' ⟨rfl, rfl⟩) | (go_at_call 69; apply Calls.mono; apply szIntS_y; ((first | (apply Rs.at0; assumption) | (apply Ow.rs0; assumption)); exact kf_); (first | assumption | omega); (first | assumption | omega); rintro E w' ⟨rfl, rfl⟩) | (go_at_call 69; apply Calls.mono; apply szIntS_n; ((first | (apply Rs.at0; assumption) | (apply Ow.rs0; assumption)); exact kf_); (first | assumption | omega); (first | assumption | omega); (first | assumption | omega); rintro E w' ⟨rfl, rfl⟩) | (go_at_call 118; apply Calls.mono; apply szDeal_y; ((first | (apply Rs.at0; assumption) | (apply Ow.rs0; assumption)); exact kf_); (first | assumption | omega); (first | assumption | omega); rintro E w' ⟨rfl, rfl⟩) | (go_at_call 118; apply Calls.mono; apply szDeal_n; ((first | (apply Rs.at0; assumption) | (apply Ow.rs0; assumption)); exact kf_); (first | assumption | omega); (first | assumption | omega); (first | assumption | omega); rintro E w' ⟨rfl, rfl⟩))
    all_goals (go_ret; exact ⟨rfl, ext_⟩)
theorem szGate_y (t : Sw.Head) (A : Option Addr) (c n : Nat) (xs : List Int) (l : Int) (w : World) (hxs : RI w 0 A c n xs) (h1 : l ≤ 1048576) (hle : (n : Int) ≤ l) : Calls Try.prog 50 #[.agg #[.int .i64 t.size, .int .i64 t.log, .int .i64 t.own, .slice A n c], .int .i64 l] w fun E w' => E = .returned (.int .i64 (l - n)) ∧ Ex w w' := by
  go_enter Try.func50, Try.ntmps50
  go_wp2_with (first | (go_at_call 69; apply Calls.mono; apply szIntS_y; ((first | (apply Rs.at0; assumption) | (apply Ow.rs0; assumption)); exact kf_); (first | assumption | omega); (first | assumption | omega); rintro E w' ⟨rfl, rfl⟩))
  all_goals (go_ret; exact ⟨ret_i (by omega), ext_⟩)
theorem szGate_n (t : Sw.Head) (A : Option Addr) (c n : Nat) (xs : List Int) (l : Int) (w : World) (hxs : RI w 0 A c n xs) (h0 : 0 ≤ l) (h1 : l ≤ 1048576) (hle : l < n) : Calls Try.prog 50 #[.agg #[.int .i64 t.size, .int .i64 t.log, .int .i64 t.own, .slice A n c], .int .i64 l] w fun E w' => E = .returned (.int .i64 (-1)) ∧ Ex w w' := by
  go_enter Try.func50, Try.ntmps50
  go_wp2_with (first | (go_at_call 69; apply Calls.mono; apply szIntS_n; ((first | (apply Rs.at0; assumption) | (apply Ow.rs0; assumption)); exact kf_); (first | assumption | omega); (first | assumption | omega); (first | assumption | omega); rintro E w' ⟨rfl, rfl⟩))
  all_goals (go_ret; exact ⟨rfl, ext_⟩)
theorem szMsg_y (g : Int) (t : Sw.Head) (A : Option Addr) (c n : Nat) (xs : List Int) (l : Int) (w : World) (hxs : RI w 0 A c n xs) (h1 : l ≤ 1048576) (hle : (n : Int) ≤ l) : Calls Try.prog 156 #[.agg #[.int .i64 g, .int .i64 t.size, .int .i64 t.log, .int .i64 t.own, .slice A n c], .int .i64 l] w fun E w' => E = .returned (.int .i64 (l - n)) ∧ Ex w w' := by
  go_enter Try.func156, Try.ntmps156
  go_wp2_with (first | (go_at_call 69; apply Calls.mono; apply szIntS_y; ((first | (apply Rs.at0; assumption) | (apply Ow.rs0; assumption)); exact kf_); (first | assumption | omega); (first | assumption | omega); rintro E w' ⟨rfl, rfl⟩))
  all_goals (go_ret; exact ⟨ret_i (by omega), ext_⟩)
theorem szMsg_n (g : Int) (t : Sw.Head) (A : Option Addr) (c n : Nat) (xs : List Int) (l : Int) (w : World) (hxs : RI w 0 A c n xs) (h0 : 0 ≤ l) (h1 : l ≤ 1048576) (hle : l < n) : Calls Try.prog 156 #[.agg #[.int .i64 g, .int .i64 t.size, .int .i64 t.log, .int .i64 t.own, .slice A n c], .int .i64 l] w fun E w' => E = .returned (.int .i64 (-1)) ∧ Ex w w' := by
  go_enter Try.func156, Try.ntmps156
  go_wp2_with (first | (go_at_call 69; apply Calls.mono; apply szIntS_n; ((first | (apply Rs.at0; assumption) | (apply Ow.rs0; assumption)); exact kf_); (first | assumption | omega); (first | assumption | omega); (first | assumption | omega); rintro E w' ⟨rfl, rfl⟩))
  all_goals (go_ret; exact ⟨rfl, ext_⟩)

/-- How many numbers gates, messages hold in their own slices. -/
def dsz (gs : List Sw.Gate) : Nat := (gs.map (·.done.length)).sum
def psz (xs : List Sw.Msg) : Nat := (xs.map (·.proof.length)).sum
theorem dsz_cons (g : Sw.Gate) (gs : List Sw.Gate) : dsz (g :: gs) = g.done.length + dsz gs := by simp [dsz]
theorem psz_cons (g : Sw.Msg) (gs : List Sw.Msg) : psz (g :: gs) = g.proof.length + psz gs := by simp [psz]
theorem szGates_y (A : Option Addr) (c n : Nat) (gs : List Sw.Gate) (l : Int) (w : World) (hxs : RG w 0 A c n gs) (h1 : l ≤ 1048576) (hle : (n : Int) + dsz gs ≤ l) : Calls Try.prog 71 #[.slice A n c, .int .i64 l] w fun E w' => E = .returned (.int .i64 (l - (n + dsz gs))) ∧ Ex w w' := by
  have hl := Lib.hid hxs.len.1
  have hbig := hxs.len.2
  go_enter Try.func71, Try.ntmps71
  go_wp2_with fail
  go_loopw [5, 1] (fun i v wr => ∃ (k : Nat) (l' : Int), k ≤ n ∧ i = .int .i64 k ∧ v = .int .i64 l' ∧ l' ≤ 1048576 ∧ (dsz (gs.drop k) : Int) ≤ l' ∧ l' - dsz (gs.drop k) = l - n - dsz gs ∧ Ex w wr) (fun i _ _ => n - (intOf i).toNat)
  case atStart => exact ⟨0, l - n, Nat.zero_le _, rfl, rfl, by omega, by simp; omega, by simp, Ch.refl _ _⟩
  case round =>
    obtain ⟨k, l', hk, rfl, rfl, hl1, hl2, hrel, hb2⟩ := hrel
    have hst := Ex.rules hb2 rfl
    obtain ⟨hc2, hf2, hz2⟩ := hst
    by_cases hlt : k < n
    · obtain ⟨g, off, y, B, d, m, rfl, hg0, hg, hd, hy, q0, q1, q2, q3, hr⟩ := at_G hxs hlt
      rw [hd, dsz_cons] at hrel hl2
      have hm : m = y.done.length := hr.1
      have Hrel := Lib.hid hrel
      have Hm := Lib.hid hm
      have hl3 : (m : Int) ≤ l' := by omega
      have hl4 : (dsz (gs.drop (k + 1)) : Int) ≤ l' - m := by omega
      clear hrel hd hy hm hl2
      go_wp2_with (first | (go_at_call 50; apply Calls.mono; apply szGate_y; ((first | (apply Rs.at0; assumption) | (apply Ow.rs0; assumption)); exact kf_); (first | assumption | omega); (first | assumption | omega); rintro E w1 ⟨rfl, hb⟩; have hst := xr hb; (try simp only [zA, zC, zD, zN] at hst); obtain ⟨hc, hf, hz⟩ := hst))
      all_goals go_roundw
      case rel => exact ⟨k + 1, l' - m, by omega, by go_num, rfl, by omega, by omega, by have := Hrel.out; have := Hm.out; omega, ext_⟩
      case measure => simp [intOf]; omega
    · have Hrel := Lib.hid hrel; clear hrel
      have e : gs.drop k = [] := List.drop_of_length_le (by have := hl.out; omega)
      rw [e] at hl2
      have E := Lib.hid e; clear e
      go_wp2_with fail
      go_ret
      refine ⟨ret_i ?_, ext_⟩
      have := Hrel.out
      rw [E.out] at this
      have h0 : dsz [] = 0 := rfl
      omega
theorem szGates_n (A : Option Addr) (c n : Nat) (gs : List Sw.Gate) (l : Int) (w : World) (hxs : RG w 0 A c n gs) (h0 : 0 ≤ l) (h1 : l ≤ 1048576) (hle : l < n + dsz gs) : Calls Try.prog 71 #[.slice A n c, .int .i64 l] w fun E w' => E = .returned (.int .i64 (-1)) ∧ Ex w w' := by
  have hl := Lib.hid hxs.len.1
  have hbig := hxs.len.2
  by_cases hn : l < n
  · go_enter Try.func71, Try.ntmps71
    go_wp2_with fail
    go_ret
    exact ⟨rfl, ext_⟩
  go_enter Try.func71, Try.ntmps71
  go_wp2_with fail
  go_loopw [5, 1] (fun i v wr => ∃ (k : Nat) (l' : Int), k ≤ n ∧ i = .int .i64 k ∧ v = .int .i64 l' ∧ 0 ≤ l' ∧ l' ≤ 1048576 ∧ l' < dsz (gs.drop k) ∧ Ex w wr) (fun i _ _ => n - (intOf i).toNat)
  case atStart => exact ⟨0, l - n, Nat.zero_le _, rfl, rfl, by omega, by omega, by simp; omega, Ch.refl _ _⟩
  case round =>
    obtain ⟨k, l', hk, rfl, rfl, hl0, hl1, hl2, hb2⟩ := hrel
    have hst := Ex.rules hb2 rfl
    obtain ⟨hc2, hf2, hz2⟩ := hst
    by_cases hlt : k < n
    · obtain ⟨g, off, y, B, d, m, rfl, hg0, hg, hd, hy, q0, q1, q2, q3, hr⟩ := at_G hxs hlt
      rw [hd, dsz_cons] at hl2
      have hm : m = y.done.length := hr.1
      rw [← hm] at hl2
      clear hd hy hm
      by_cases hl3 : l' < m
      · clear hl2
        go_wp2_with (first | (go_at_call 50; apply Calls.mono; apply szGate_n; ((first | (apply Rs.at0; assumption) | (apply Ow.rs0; assumption)); exact kf_); (first | assumption | omega); (first | assumption | omega); (first | assumption | omega); rintro E w1 ⟨rfl, hb⟩; have hst := xr hb; (try simp only [zA, zC, zD, zN] at hst); obtain ⟨hc, hf, hz⟩ := hst))
        all_goals (go_ret; exact ⟨rfl, ext_⟩)
      · have hl4 : l' - m < dsz (gs.drop (k + 1)) := by omega
        clear hl2
        go_wp2_with (first | (go_at_call 50; apply Calls.mono; apply szGate_y; ((first | (apply Rs.at0; assumption) | (apply Ow.rs0; assumption)); exact kf_); (first | assumption | omega); (first | assumption | omega); rintro E w1 ⟨rfl, hb⟩; have hst := xr hb; (try simp only [zA, zC, zD, zN] at hst); obtain ⟨hc, hf, hz⟩ := hst))
        all_goals go_roundw
        case rel => exact ⟨k + 1, l' - m, by omega, by go_num, rfl, by omega, by omega, by omega, ext_⟩
        case measure => simp [intOf]; omega
    · have e : gs.drop k = [] := List.drop_of_length_le (by have := hl.out; omega)
      rw [e] at hl2
      have h0 : dsz [] = 0 := rfl
      omega
theorem szMsgs_y (A : Option Addr) (c n : Nat) (gs : List Sw.Msg) (l : Int) (w : World) (hxs : RX w 0 A c n gs) (h1 : l ≤ 1048576) (hle : (n : Int) + psz gs ≤ l) : Calls Try.prog 72 #[.slice A n c, .int .i64 l] w fun E w' => E = .returned (.int .i64 (l - (n + psz gs))) ∧ Ex w w' := by
  have hl := Lib.hid hxs.len.1
  have hbig := hxs.len.2
  go_enter Try.func72, Try.ntmps72
  go_wp2_with fail
  go_loopw [5, 1] (fun i v wr => ∃ (k : Nat) (l' : Int), k ≤ n ∧ i = .int .i64 k ∧ v = .int .i64 l' ∧ l' ≤ 1048576 ∧ (psz (gs.drop k) : Int) ≤ l' ∧ l' - psz (gs.drop k) = l - n - psz gs ∧ Ex w wr) (fun i _ _ => n - (intOf i).toNat)
  case atStart => exact ⟨0, l - n, Nat.zero_le _, rfl, rfl, by omega, by simp; omega, by simp, Ch.refl _ _⟩
  case round =>
    obtain ⟨k, l', hk, rfl, rfl, hl1, hl2, hrel, hb2⟩ := hrel
    have hst := Ex.rules hb2 rfl
    obtain ⟨hc2, hf2, hz2⟩ := hst
    by_cases hlt : k < n
    · obtain ⟨g, off, y, B, d, m, rfl, hg0, hg, hd, hy, q0, q1, q2, q3, q4, hr⟩ := at_X hxs hlt
      rw [hd, psz_cons] at hrel hl2
      have hm : m = y.proof.length := hr.1
      have Hrel := Lib.hid hrel
      have Hm := Lib.hid hm
      have hl3 : (m : Int) ≤ l' := by omega
      have hl4 : (psz (gs.drop (k + 1)) : Int) ≤ l' - m := by omega
      clear hrel hd hy hm hl2
      go_wp2_with (first | (go_at_call 156; apply Calls.mono; apply szMsg_y; ((first | (apply Rs.at0; assumption) | (apply Ow.rs0; assumption)); exact kf_); (first | assumption | omega); (first | assumption | omega); rintro E w1 ⟨rfl, hb⟩; have hst := xr hb; (try simp only [zA, zC, zD, zN] at hst); obtain ⟨hc, hf, hz⟩ := hst))
      all_goals go_roundw
      case rel => exact ⟨k + 1, l' - m, by omega, by go_num, rfl, by omega, by omega, by have := Hrel.out; have := Hm.out; omega, ext_⟩
      case measure => simp [intOf]; omega
    · have Hrel := Lib.hid hrel; clear hrel
      have e : gs.drop k = [] := List.drop_of_length_le (by have := hl.out; omega)
      rw [e] at hl2
      have E := Lib.hid e; clear e
      go_wp2_with fail
      go_ret
      refine ⟨ret_i ?_, ext_⟩
      have := Hrel.out
      rw [E.out] at this
      have h0 : psz [] = 0 := rfl
      omega
theorem szMsgs_n (A : Option Addr) (c n : Nat) (gs : List Sw.Msg) (l : Int) (w : World) (hxs : RX w 0 A c n gs) (h0 : 0 ≤ l) (h1 : l ≤ 1048576) (hle : l < n + psz gs) : Calls Try.prog 72 #[.slice A n c, .int .i64 l] w fun E w' => E = .returned (.int .i64 (-1)) ∧ Ex w w' := by
  have hl := Lib.hid hxs.len.1
  have hbig := hxs.len.2
  by_cases hn : l < n
  · go_enter Try.func72, Try.ntmps72
    go_wp2_with fail
    go_ret
    exact ⟨rfl, ext_⟩
  go_enter Try.func72, Try.ntmps72
  go_wp2_with fail
  go_loopw [5, 1] (fun i v wr => ∃ (k : Nat) (l' : Int), k ≤ n ∧ i = .int .i64 k ∧ v = .int .i64 l' ∧ 0 ≤ l' ∧ l' ≤ 1048576 ∧ l' < psz (gs.drop k) ∧ Ex w wr) (fun i _ _ => n - (intOf i).toNat)
  case atStart => exact ⟨0, l - n, Nat.zero_le _, rfl, rfl, by omega, by omega, by simp; omega, Ch.refl _ _⟩
  case round =>
    obtain ⟨k, l', hk, rfl, rfl, hl0, hl1, hl2, hb2⟩ := hrel
    have hst := Ex.rules hb2 rfl
    obtain ⟨hc2, hf2, hz2⟩ := hst
    by_cases hlt : k < n
    · obtain ⟨g, off, y, B, d, m, rfl, hg0, hg, hd, hy, q0, q1, q2, q3, q4, hr⟩ := at_X hxs hlt
      rw [hd, psz_cons] at hl2
      have hm : m = y.proof.length := hr.1
      rw [← hm] at hl2
      clear hd hy hm
      by_cases hl3 : l' < m
      · clear hl2
        go_wp2_with (first | (go_at_call 156; apply Calls.mono; apply szMsg_n; ((first | (apply Rs.at0; assumption) | (apply Ow.rs0; assumption)); exact kf_); (first | assumption | omega); (first | assumption | omega); (first | assumption | omega); rintro E w1 ⟨rfl, hb⟩; have hst := xr hb; (try simp only [zA, zC, zD, zN] at hst); obtain ⟨hc, hf, hz⟩ := hst))
        all_goals (go_ret; exact ⟨rfl, ext_⟩)
      · have hl4 : l' - m < psz (gs.drop (k + 1)) := by omega
        clear hl2
        go_wp2_with (first | (go_at_call 156; apply Calls.mono; apply szMsg_y; ((first | (apply Rs.at0; assumption) | (apply Ow.rs0; assumption)); exact kf_); (first | assumption | omega); (first | assumption | omega); rintro E w1 ⟨rfl, hb⟩; have hst := xr hb; (try simp only [zA, zC, zD, zN] at hst); obtain ⟨hc, hf, hz⟩ := hst))
        all_goals go_roundw
        case rel => exact ⟨k + 1, l' - m, by omega, by go_num, rfl, by omega, by omega, by omega, ext_⟩
        case measure => simp [intOf]; omega
    · have e : gs.drop k = [] := List.drop_of_length_le (by have := hl.out; omega)
      rw [e] at hl2
      have h0 : psz [] = 0 := rfl
      omega
theorem szWld_y (aF : Option Addr) (aFc aFn : Nat) (aL : Option Addr) (aLc aLn : Nat) (aP : Option Addr) (aPc aPn : Nat) (aD : Option Addr) (aDc aDn : Nat) (aN : Option Addr) (aNc aNn : Nat) (aS : Option Addr) (aSc aSn : Nat) (aI : Option Addr) (aIc aIn : Nat) (aG : Option Addr) (aGc aGn : Nat) (aB : Option Addr) (aBc aBn : Nat) (x : Sw.World) (l : Int) (w : World) (hx : RW w 0 aF aFc aFn aL aLc aLn aP aPc aPn aD aDc aDn aN aNc aNn aS aSc aSn aI aIc aIn aG aGc aGn aB aBc aBn x) (h1 : l ≤ 1048576) (hle : (aFn : Int) + (aLn + aPn + aDn + aNn + aSn) + aIn + (aGn + dsz x.gates) + (aBn + psz x.bag) ≤ l) : Calls Try.prog 13 #[.agg #[.slice aF aFn aFc, .slice aL aLn aLc, .slice aP aPn aPc, .slice aD aDn aDc, .int .i64 x.market.clock, .slice aN aNn aNc, .slice aS aSn aSc, .slice aI aIn aIc, .slice aG aGn aGc, .slice aB aBn aBc], .int .i64 l] w fun E w' => E = .returned (.int .i64 (l - aFn - (aLn + aPn + aDn + aNn + aSn) - aIn - (aGn + dsz x.gates) - (aBn + psz x.bag))) ∧ Ex w w' := by
  obtain ⟨x1, x2, x3, x4, x5⟩ := hx
  go_enter Try.func13, Try.ntmps13
  go_wp2_with (first | (go_at_call 69; apply Calls.mono; apply szIntS_y; ((first | (apply Rs.at0; assumption) | (apply Ow.rs0; assumption)); exact kf_); (first | assumption | omega); (first | assumption | omega); rintro E w' ⟨rfl, rfl⟩) | (go_at_call 43; apply Calls.mono; apply szMkt_y; ((first | (apply RM.at0; assumption)); exact kf_); (first | assumption | omega); (first | assumption | omega); rintro E w1 ⟨rfl, hb⟩; have hst := xr hb; (try simp only [zA, zC, zD, zN] at hst); obtain ⟨hc, hf, hz⟩ := hst) | (go_at_call 70; apply Calls.mono; apply szLine_y; ((first | (apply Rs.at0; assumption) | (apply Ow.rs0; assumption)); exact kf_); (first | assumption | omega); (first | assumption | omega); rintro E w' ⟨rfl, rfl⟩) | (go_at_call 71; apply Calls.mono; apply szGates_y; ((first | (apply RG.at0; assumption)); exact kf_); (first | assumption | omega); (first | assumption | omega); rintro E w1 ⟨rfl, hb⟩; have hst := xr hb; (try simp only [zA, zC, zD, zN] at hst); obtain ⟨hc, hf, hz⟩ := hst) | (go_at_call 72; apply Calls.mono; apply szMsgs_y; ((first | (apply RX.at0; assumption)); exact kf_); (first | assumption | omega); (first | assumption | omega); rintro E w1 ⟨rfl, hb⟩; have hst := xr hb; (try simp only [zA, zC, zD, zN] at hst); obtain ⟨hc, hf, hz⟩ := hst))
  all_goals (go_ret; exact ⟨ret_i (by omega), ext_⟩)
theorem szWld_n (aF : Option Addr) (aFc aFn : Nat) (aL : Option Addr) (aLc aLn : Nat) (aP : Option Addr) (aPc aPn : Nat) (aD : Option Addr) (aDc aDn : Nat) (aN : Option Addr) (aNc aNn : Nat) (aS : Option Addr) (aSc aSn : Nat) (aI : Option Addr) (aIc aIn : Nat) (aG : Option Addr) (aGc aGn : Nat) (aB : Option Addr) (aBc aBn : Nat) (x : Sw.World) (l : Int) (w : World) (hx : RW w 0 aF aFc aFn aL aLc aLn aP aPc aPn aD aDc aDn aN aNc aNn aS aSc aSn aI aIc aIn aG aGc aGn aB aBc aBn x) (h0 : 0 ≤ l) (h1 : l ≤ 1048576) (hle : l < (aFn : Int) + (aLn + aPn + aDn + aNn + aSn) + aIn + (aGn + dsz x.gates) + (aBn + psz x.bag)) : Calls Try.prog 13 #[.agg #[.slice aF aFn aFc, .slice aL aLn aLc, .slice aP aPn aPc, .slice aD aDn aDc, .int .i64 x.market.clock, .slice aN aNn aNc, .slice aS aSn aSc, .slice aI aIn aIc, .slice aG aGn aGc, .slice aB aBn aBc], .int .i64 l] w fun E w' => E = .returned (.int .i64 (-1)) ∧ Ex w w' := by
  obtain ⟨x1, x2, x3, x4, x5⟩ := hx
  rcases (show l < aFn ∨ (aFn ≤ l ∧ l < aFn + (aLn + aPn + aDn + aNn + aSn)) ∨ (aFn + (aLn + aPn + aDn + aNn + aSn) ≤ l ∧ l < aFn + (aLn + aPn + aDn + aNn + aSn) + aIn) ∨
    (aFn + (aLn + aPn + aDn + aNn + aSn) + aIn ≤ l ∧ l < aFn + (aLn + aPn + aDn + aNn + aSn) + aIn + (aGn + dsz x.gates)) ∨ (aFn + (aLn + aPn + aDn + aNn + aSn) + aIn + (aGn + dsz x.gates) ≤ l) by omega) with h2 | ⟨h2, h3⟩ | ⟨h2, h3⟩ | ⟨h2, h3⟩ | h2
  all_goals
    go_enter Try.func13, Try.ntmps13
    go_wp2_with (first | (go_at_call 69; apply Calls.mono; apply szIntS_y; ((first | (apply Rs.at0; assumption) | (apply Ow.rs0; assumption)); exact kf_); (first | assumption | omega); (first | assumption | omega); rintro E w' ⟨rfl, rfl⟩) | (go_at_call 69; apply Calls.mono; apply szIntS_n; ((first | (apply Rs.at0; assumption) | (apply Ow.rs0; assumption)); exact kf_); (first | assumption | omega); (first | assumption | omega); (first | assumption | omega); rintro E w' ⟨rfl, rfl⟩) | (go_at_call 43; apply Calls.mono; apply szMkt_y; ((first | (apply RM.at0; assumption)); exact kf_); (first | assumption | omega); (first | assumption | omega); rintro E w1 ⟨rfl, hb⟩; have hst := xr hb; (try simp only [zA, zC, zD, zN] at hst); obtain ⟨hc, hf, hz⟩ := hst) | (go_at_call 43; apply Calls.mono; apply szMkt_n; ((first | (apply RM.at0; assumption)); exact kf_); (first | assumption | omega); (first | assumption | omega); (first | assumption | omega); rintro E w1 ⟨rfl, hb⟩; have hst := xr hb; (try simp only [zA, zC, zD, zN] at hst); obtain ⟨hc, hf, hz⟩ := hst) | (go_at_call 70; apply Calls.mono; apply szLine_y; ((first | (apply Rs.at0; assumption) | (apply Ow.rs0; assumption)); exact kf_); (first | assumption | omega); (first | assumption | omega); rintro E w' ⟨rfl, rfl⟩) | (go_at_call 70; apply Calls.mono; apply szLine_n; ((first | (apply Rs.at0; assumption) | (apply Ow.rs0; assumption)); exact kf_); (first | assumption | omega); (first | assumption | omega); (first | assumption | omega); rintro E w' ⟨rfl, rfl⟩) | (go_at_call 71; apply Calls.mono; apply szGates_y; ((first | (apply RG.at0; assumption)); exact kf_); (first | assumption | omega); (first | assumption | omega); rintro E w1 ⟨rfl, hb⟩; have hst := xr hb; (try simp only [zA, zC, zD, zN] at hst); obtain ⟨hc, hf, hz⟩ := hst) | (go_at_call 71; apply Calls.mono; apply szGates_n; ((first | (apply RG.at0; assumption)); exact kf_); (first | assumption | omega); (first | assumption | omega); (first | assumption | omega); rintro E w1 ⟨rfl, hb⟩; have hst := xr hb; (try simp only [zA, zC, zD, zN] at hst); obtain ⟨hc, hf, hz⟩ := hst) | (go_at_call 72; apply Calls.mono; apply szMsgs_y; ((first | (apply RX.at0; assumption)); exact kf_); (first | assumption | omega); (first | assumption | omega); rintro E w1 ⟨rfl, hb⟩; have hst := xr hb; (try simp only [zA, zC, zD, zN] at hst); obtain ⟨hc, hf, hz⟩ := hst) | (go_at_call 72; apply Calls.mono; apply szMsgs_n; ((first | (apply RX.at0; assumption)); exact kf_); (first | assumption | omega); (first | assumption | omega); (first | assumption | omega); rintro E w1 ⟨rfl, hb⟩; have hst := xr hb; (try simp only [zA, zC, zD, zN] at hst); obtain ⟨hc, hf, hz⟩ := hst))
    all_goals (go_ret; exact ⟨rfl, ext_⟩)
end Go.Proofs.Ytncoiknpkebgoaa

namespace Go.Proofs.Ytncoiknpkebgoaa
set_option maxRecDepth 100000
set_option linter.unusedSimpArgs false
set_option linter.unusedVariables false
open Go.RowKit Go
set_option maxHeartbeats 400000

theorem mkt_ext {a b : Sw.Mkt} : a = b ↔ a.log = b.log ∧ a.purses = b.purses ∧ a.deals = b.deals ∧ a.clock = b.clock ∧ a.nums = b.nums ∧ a.said = b.said := by cases a; cases b; simp
theorem gate_ext {a b : Sw.Gate} : a = b ↔ a.head = b.head ∧ a.done = b.done := by cases a; cases b; simp
theorem msg_ext {a b : Sw.Msg} : a = b ↔ a.gate = b.gate ∧ a.head = b.head ∧ a.proof = b.proof := by cases a; cases b; simp
theorem world_ext {a b : Sw.World} : a = b ↔ a.first = b.first ∧ a.market = b.market ∧ a.lines = b.lines ∧ a.gates = b.gates ∧ a.bag = b.bag := by cases a; cases b; simp
theorem gate_dec (y z : Sw.Gate) : decide (y = z) = (decide (y.head = z.head) && decide (y.done = z.done)) := by rw [Bool.eq_iff_iff]; simp [gate_ext]
theorem msg_dec (y z : Sw.Msg) : decide (y = z) = (decide (y.gate = z.gate) && (decide (y.head = z.head) && decide (y.proof = z.proof))) := by rw [Bool.eq_iff_iff]; simp [msg_ext]

theorem eqWldMsg_c (g : Int) (t : Sw.Head) (A : Option Addr) (c n : Nat) (xs : List Int) (f : Int) (u : Sw.Head) (B : Option Addr) (d m : Nat) (ys : List Int) (w : World) (hxs : RI w 0 A c n xs) (hys : RI w 0 B d m ys) : Calls Try.prog 160 #[.agg #[.int .i64 g, .int .i64 t.size, .int .i64 t.log, .int .i64 t.own, .slice A n c], .agg #[.int .i64 f, .int .i64 u.size, .int .i64 u.log, .int .i64 u.own, .slice B m d]] w fun E w' => E = .returned (.bool (decide (g = f) && (decide (t = u) && decide (xs = ys)))) ∧ Ex w w' := by
  cases g1 : decide (t = u)
  all_goals
    go_enter Try.func160, Try.ntmps160
    go_wp2_with (first | (go_at_call 140; refine (eqHedHead_c _ _ _).mono ?_; rintro E w1 ⟨rfl, hb⟩; have hst := xr hb; (try simp only [zA, zC, zD, zN] at hst); obtain ⟨hc, hf, hz⟩ := hst) | (go_at_call 57; apply Calls.mono; apply eqIntS_c; ((first | (apply Rs.at0; assumption) | (apply Ow.rs0; assumption)); exact kf_); ((first | (apply Rs.at0; assumption) | (apply Ow.rs0; assumption)); exact kf_); rintro E w1 ⟨rfl, hb⟩; have hst := xr hb; (try simp only [zA, zC, zD, zN] at hst); obtain ⟨hc, hf, hz⟩ := hst))
    all_goals (go_ret; refine ⟨ret_b ?_, ext_⟩; go_tidy; first | (simp [*]; done) | (simp_all; done))

theorem eqGatGateS_c (A : Option Addr) (c n : Nat) (xs : List Sw.Gate) (B : Option Addr) (d m : Nat) (ys : List Sw.Gate) (w : World) (hxs : RG w 0 A c n xs) (hys : RG w 0 B d m ys) : Calls Try.prog 79 #[.slice A n c, .slice B m d] w fun E w' => E = .returned (.bool (decide (xs = ys))) ∧ Ex w w' := by
  have hl := Lib.hid hxs.len.1
  have hl' := Lib.hid hys.len.1
  have hbig := hxs.len.2
  by_cases hnm : n = m
  case neg =>
    have hb : ((n : Int) == m) = false := by simp; omega
    have e : decide (xs = ys) = false := by
      rw [decide_eq_false_iff_not]; rintro rfl
      have := hl.out; have := hl'.out; omega
    rw [e]; clear e
    go_enter Try.func79, Try.ntmps79
    go_wp2_with fail
    go_ret
    exact ⟨rfl, ext_⟩
  subst hnm
  go_enter Try.func79, Try.ntmps79
  go_wp2_with fail
  go_loopw [5] (fun i wr => ∃ k : Nat, k ≤ n ∧ i = .int .i64 k ∧ Ex w wr ∧ decide (xs = ys) = decide (xs.drop k = ys.drop k)) (fun i _ => n - (intOf i).toNat)
  case atStart => exact ⟨0, Nat.zero_le _, rfl, Ch.refl _ _, rfl⟩
  case round =>
    obtain ⟨k, hk, rfl, hb2, hrel⟩ := hrel
    have hst := Ex.rules hb2 rfl
    obtain ⟨hc2, hf2, hz2⟩ := hst
    by_cases hlt : k < n
    · obtain ⟨g, off, y, B1, d1, m1, rfl, hg0, hg, hd, hy, q0, q1, q2, q3, hr⟩ := at_G hxs hlt
      obtain ⟨g', off', z, B2, d2, m2, rfl, hg0', hg', hd', hz', q0', q1', q2', q3', hr'⟩ := at_G hys hlt
      have t1 : (0 : Int) ≤ (k : Int) := by omega
      have t2 : (k : Int) < (n : Int) := by omega
      rw [hd, hd'] at hrel
      have Hrel := Lib.hid hrel
      clear hrel hd hd' hy hz'
      cases hyz : decide (y.head = z.head) && decide (y.done = z.done) with
      | true =>
        have E : y = z := by rw [← gate_dec] at hyz; exact of_decide_eq_true hyz
        have E := Lib.hid E
        go_wp2_with fail
        (refine wp_name ?_; intro W0 hb0; have hst := xr hb0; (try simp only [zA, zC, zD, zN] at hst); obtain ⟨hc0, hf0, hz0⟩ := hst; go_region_held3 (fun w' => Held W0 w') ((first | with_reducible assumption | with_reducible exact Held.start _ | with_reducible exact Held.of (by assumption) | with_reducible exact Held.ex (by assumption) (by assumption) | ((repeat (first | with_reducible refine Held.set ?_ (by simp only [zA, zC, zD, zN]; omega) | with_reducible refine Held.alloc ?_ _ | with_reducible refine Held.drew ?_)); (first | with_reducible assumption | with_reducible exact Held.refl _ | with_reducible exact Held.of (by assumption) | with_reducible exact Held.ex (by assumption) (by assumption))) | exact Held.of (by exact ext_))) ((first | (go_at_call 56; apply Calls.mono; apply eqGatGate_c; ((first | (apply Rs.at0; assumption) | (apply Ow.rs0; assumption)); exact kf_); ((first | (apply Rs.at0; assumption) | (apply Ow.rs0; assumption)); exact kf_); rintro E w1 ⟨rfl, hb⟩; have hst := xr hb; (try simp only [zA, zC, zD, zN] at hst); obtain ⟨hc, hf, hz⟩ := hst))); all_goals (have hb := And.right (by assumption : Held W0 _); have hst := xr hb; (try simp only [zA, zC, zD, zN] at hst); obtain ⟨hc, hf, hz⟩ := hst))
        all_goals go_wp2
        all_goals go_roundw
        case rel => exact ⟨k + 1, by omega, by go_num, ext_, by rw [Hrel.out]; simp [E.out]⟩
        case measure => simp [intOf]; omega
      | false =>
        have E : y ≠ z := by rw [← gate_dec] at hyz; exact of_decide_eq_false hyz
        have E := Lib.hid E
        go_wp2_with fail
        (refine wp_name ?_; intro W0 hb0; have hst := xr hb0; (try simp only [zA, zC, zD, zN] at hst); obtain ⟨hc0, hf0, hz0⟩ := hst; go_region_held3 (fun w' => Held W0 w') ((first | with_reducible assumption | with_reducible exact Held.start _ | with_reducible exact Held.of (by assumption) | with_reducible exact Held.ex (by assumption) (by assumption) | ((repeat (first | with_reducible refine Held.set ?_ (by simp only [zA, zC, zD, zN]; omega) | with_reducible refine Held.alloc ?_ _ | with_reducible refine Held.drew ?_)); (first | with_reducible assumption | with_reducible exact Held.refl _ | with_reducible exact Held.of (by assumption) | with_reducible exact Held.ex (by assumption) (by assumption))) | exact Held.of (by exact ext_))) ((first | (go_at_call 56; apply Calls.mono; apply eqGatGate_c; ((first | (apply Rs.at0; assumption) | (apply Ow.rs0; assumption)); exact kf_); ((first | (apply Rs.at0; assumption) | (apply Ow.rs0; assumption)); exact kf_); rintro E w1 ⟨rfl, hb⟩; have hst := xr hb; (try simp only [zA, zC, zD, zN] at hst); obtain ⟨hc, hf, hz⟩ := hst))); all_goals (have hb := And.right (by assumption : Held W0 _); have hst := xr hb; (try simp only [zA, zC, zD, zN] at hst); obtain ⟨hc, hf, hz⟩ := hst))
        all_goals go_wp2
        all_goals go_ret
        all_goals exact ⟨ret_b (by rw [Hrel.out]; simp [E.out]), ext_⟩
    · have Hrel := Lib.hid hrel; clear hrel
      go_wp2_with fail
      go_ret
      refine ⟨ret_b ?_, ext_⟩
      rw [Hrel.out, List.drop_of_length_le (by have := hl.out; omega), List.drop_of_length_le (by have := hl'.out; omega)]
      simp
theorem eqWldMsgS_c (A : Option Addr) (c n : Nat) (xs : List Sw.Msg) (B : Option Addr) (d m : Nat) (ys : List Sw.Msg) (w : World) (hxs : RX w 0 A c n xs) (hys : RX w 0 B d m ys) : Calls Try.prog 80 #[.slice A n c, .slice B m d] w fun E w' => E = .returned (.bool (decide (xs = ys))) ∧ Ex w w' := by
  have hl := Lib.hid hxs.len.1
  have hl' := Lib.hid hys.len.1
  have hbig := hxs.len.2
  by_cases hnm : n = m
  case neg =>
    have hb : ((n : Int) == m) = false := by simp; omega
    have e : decide (xs = ys) = false := by
      rw [decide_eq_false_iff_not]; rintro rfl
      have := hl.out; have := hl'.out; omega
    rw [e]; clear e
    go_enter Try.func80, Try.ntmps80
    go_wp2_with fail
    go_ret
    exact ⟨rfl, ext_⟩
  subst hnm
  go_enter Try.func80, Try.ntmps80
  go_wp2_with fail
  go_loopw [5] (fun i wr => ∃ k : Nat, k ≤ n ∧ i = .int .i64 k ∧ Ex w wr ∧ decide (xs = ys) = decide (xs.drop k = ys.drop k)) (fun i _ => n - (intOf i).toNat)
  case atStart => exact ⟨0, Nat.zero_le _, rfl, Ch.refl _ _, rfl⟩
  case round =>
    obtain ⟨k, hk, rfl, hb2, hrel⟩ := hrel
    have hst := Ex.rules hb2 rfl
    obtain ⟨hc2, hf2, hz2⟩ := hst
    by_cases hlt : k < n
    · obtain ⟨g, off, y, B1, d1, m1, rfl, hg0, hg, hd, hy, q0, q1, q2, q3, q4, hr⟩ := at_X hxs hlt
      obtain ⟨g', off', z, B2, d2, m2, rfl, hg0', hg', hd', hz', q0', q1', q2', q3', q4', hr'⟩ := at_X hys hlt
      have t1 : (0 : Int) ≤ (k : Int) := by omega
      have t2 : (k : Int) < (n : Int) := by omega
      rw [hd, hd'] at hrel
      have Hrel := Lib.hid hrel
      clear hrel hd hd' hy hz'
      cases hyz : decide (y.gate = z.gate) && (decide (y.head = z.head) && decide (y.proof = z.proof)) with
      | true =>
        have E : y = z := by rw [← msg_dec] at hyz; exact of_decide_eq_true hyz
        have E := Lib.hid E
        go_wp2_with fail
        (refine wp_name ?_; intro W0 hb0; have hst := xr hb0; (try simp only [zA, zC, zD, zN] at hst); obtain ⟨hc0, hf0, hz0⟩ := hst; go_region_held3 (fun w' => Held W0 w') ((first | with_reducible assumption | with_reducible exact Held.start _ | with_reducible exact Held.of (by assumption) | with_reducible exact Held.ex (by assumption) (by assumption) | ((repeat (first | with_reducible refine Held.set ?_ (by simp only [zA, zC, zD, zN]; omega) | with_reducible refine Held.alloc ?_ _ | with_reducible refine Held.drew ?_)); (first | with_reducible assumption | with_reducible exact Held.refl _ | with_reducible exact Held.of (by assumption) | with_reducible exact Held.ex (by assumption) (by assumption))) | exact Held.of (by exact ext_))) ((first | (go_at_call 160; apply Calls.mono; apply eqWldMsg_c; ((first | (apply Rs.at0; assumption) | (apply Ow.rs0; assumption)); exact kf_); ((first | (apply Rs.at0; assumption) | (apply Ow.rs0; assumption)); exact kf_); rintro E w1 ⟨rfl, hb⟩; have hst := xr hb; (try simp only [zA, zC, zD, zN] at hst); obtain ⟨hc, hf, hz⟩ := hst))); all_goals (have hb := And.right (by assumption : Held W0 _); have hst := xr hb; (try simp only [zA, zC, zD, zN] at hst); obtain ⟨hc, hf, hz⟩ := hst))
        all_goals go_wp2
        all_goals go_roundw
        case rel => exact ⟨k + 1, by omega, by go_num, ext_, by rw [Hrel.out]; simp [E.out]⟩
        case measure => simp [intOf]; omega
      | false =>
        have E : y ≠ z := by rw [← msg_dec] at hyz; exact of_decide_eq_false hyz
        have E := Lib.hid E
        go_wp2_with fail
        (refine wp_name ?_; intro W0 hb0; have hst := xr hb0; (try simp only [zA, zC, zD, zN] at hst); obtain ⟨hc0, hf0, hz0⟩ := hst; go_region_held3 (fun w' => Held W0 w') ((first | with_reducible assumption | with_reducible exact Held.start _ | with_reducible exact Held.of (by assumption) | with_reducible exact Held.ex (by assumption) (by assumption) | ((repeat (first | with_reducible refine Held.set ?_ (by simp only [zA, zC, zD, zN]; omega) | with_reducible refine Held.alloc ?_ _ | with_reducible refine Held.drew ?_)); (first | with_reducible assumption | with_reducible exact Held.refl _ | with_reducible exact Held.of (by assumption) | with_reducible exact Held.ex (by assumption) (by assumption))) | exact Held.of (by exact ext_))) ((first | (go_at_call 160; apply Calls.mono; apply eqWldMsg_c; ((first | (apply Rs.at0; assumption) | (apply Ow.rs0; assumption)); exact kf_); ((first | (apply Rs.at0; assumption) | (apply Ow.rs0; assumption)); exact kf_); rintro E w1 ⟨rfl, hb⟩; have hst := xr hb; (try simp only [zA, zC, zD, zN] at hst); obtain ⟨hc, hf, hz⟩ := hst))); all_goals (have hb := And.right (by assumption : Held W0 _); have hst := xr hb; (try simp only [zA, zC, zD, zN] at hst); obtain ⟨hc, hf, hz⟩ := hst))
        all_goals go_wp2
        all_goals go_ret
        all_goals exact ⟨ret_b (by rw [Hrel.out]; simp [E.out]), ext_⟩
    · have Hrel := Lib.hid hrel; clear hrel
      go_wp2_with fail
      go_ret
      refine ⟨ret_b ?_, ext_⟩
      rw [Hrel.out, List.drop_of_length_le (by have := hl.out; omega), List.drop_of_length_le (by have := hl'.out; omega)]
      simp
theorem eqMktHouse_c (aL : Option Addr) (aLc aLn : Nat) (aP : Option Addr) (aPc aPn : Nat) (aD : Option Addr) (aDc aDn : Nat) (aN : Option Addr) (aNc aNn : Nat) (aS : Option Addr) (aSc aSn : Nat) (x : Sw.Mkt) (bL : Option Addr) (bLc bLn : Nat) (bP : Option Addr) (bPc bPn : Nat) (bD : Option Addr) (bDc bDn : Nat) (bN : Option Addr) (bNc bNn : Nat) (bS : Option Addr) (bSc bSn : Nat) (y : Sw.Mkt) (w : World) (hx : RM w 0 aL aLc aLn aP aPc aPn aD aDc aDn aN aNc aNn aS aSc aSn x) (hy : RM w 0 bL bLc bLn bP bPc bPn bD bDc bDn bN bNc bNn bS bSc bSn y) : Calls Try.prog 47 #[.agg #[.slice aL aLn aLc, .slice aP aPn aPc, .slice aD aDn aDc, .int .i64 x.clock, .slice aN aNn aNc, .slice aS aSn aSc], .agg #[.slice bL bLn bLc, .slice bP bPn bPc, .slice bD bDn bDc, .int .i64 y.clock, .slice bN bNn bNc, .slice bS bSn bSc]] w fun E w' => E = .returned (.bool (decide (x = y))) ∧ Ex w w' := by
  obtain ⟨x1, x2, x3, x4, x5⟩ := hx
  obtain ⟨y1, y2, y3, y4, y5⟩ := hy
  go_enter Try.func47, Try.ntmps47
  go_wp2_with (first | (go_at_call 125; apply Calls.mono; apply eqEntEntryS_c; ((first | (apply Rs.at0; assumption) | (apply Ow.rs0; assumption)); exact kf_); ((first | (apply Rs.at0; assumption) | (apply Ow.rs0; assumption)); exact kf_); rintro E w1 ⟨rfl, hb⟩; have hst := xr hb; (try simp only [zA, zC, zD, zN] at hst); obtain ⟨hc, hf, hz⟩ := hst) | (go_at_call 57; apply Calls.mono; apply eqIntS_c; ((first | (apply Rs.at0; assumption) | (apply Ow.rs0; assumption)); exact kf_); ((first | (apply Rs.at0; assumption) | (apply Ow.rs0; assumption)); exact kf_); rintro E w1 ⟨rfl, hb⟩; have hst := xr hb; (try simp only [zA, zC, zD, zN] at hst); obtain ⟨hc, hf, hz⟩ := hst) | (go_at_call 126; apply Calls.mono; apply eqMktDealS_c; ((first | (apply Rs.at0; assumption) | (apply Ow.rs0; assumption)); exact kf_); ((first | (apply Rs.at0; assumption) | (apply Ow.rs0; assumption)); exact kf_); rintro E w1 ⟨rfl, hb⟩; have hst := xr hb; (try simp only [zA, zC, zD, zN] at hst); obtain ⟨hc, hf, hz⟩ := hst))
  all_goals (go_ret; refine ⟨ret_b ?_, ext_⟩; go_tidy; simp only [mkt_ext])
  all_goals (first | (simp [*]; done) | (simp_all; done))
theorem eqWldWorld_c (aF : Option Addr) (aFc aFn : Nat) (aL : Option Addr) (aLc aLn : Nat) (aP : Option Addr) (aPc aPn : Nat) (aD : Option Addr) (aDc aDn : Nat) (aN : Option Addr) (aNc aNn : Nat) (aS : Option Addr) (aSc aSn : Nat) (aI : Option Addr) (aIc aIn : Nat) (aG : Option Addr) (aGc aGn : Nat) (aB : Option Addr) (aBc aBn : Nat) (x : Sw.World) (bF : Option Addr) (bFc bFn : Nat) (bL : Option Addr) (bLc bLn : Nat) (bP : Option Addr) (bPc bPn : Nat) (bD : Option Addr) (bDc bDn : Nat) (bN : Option Addr) (bNc bNn : Nat) (bS : Option Addr) (bSc bSn : Nat) (bI : Option Addr) (bIc bIn : Nat) (bG : Option Addr) (bGc bGn : Nat) (bB : Option Addr) (bBc bBn : Nat) (y : Sw.World) (w : World) (hx : RW w 0 aF aFc aFn aL aLc aLn aP aPc aPn aD aDc aDn aN aNc aNn aS aSc aSn aI aIc aIn aG aGc aGn aB aBc aBn x) (hy : RW w 0 bF bFc bFn bL bLc bLn bP bPc bPn bD bDc bDn bN bNc bNn bS bSc bSn bI bIc bIn bG bGc bGn bB bBc bBn y) : Calls Try.prog 17 #[.agg #[.slice aF aFn aFc, .slice aL aLn aLc, .slice aP aPn aPc, .slice aD aDn aDc, .int .i64 x.market.clock, .slice aN aNn aNc, .slice aS aSn aSc, .slice aI aIn aIc, .slice aG aGn aGc, .slice aB aBn aBc], .agg #[.slice bF bFn bFc, .slice bL bLn bLc, .slice bP bPn bPc, .slice bD bDn bDc, .int .i64 y.market.clock, .slice bN bNn bNc, .slice bS bSn bSc, .slice bI bIn bIc, .slice bG bGn bGc, .slice bB bBn bBc]] w fun E w' => E = .returned (.bool (decide (x = y))) ∧ Ex w w' := by
  obtain ⟨x1, x2, x3, x4, x5⟩ := hx
  obtain ⟨y1, y2, y3, y4, y5⟩ := hy
  go_enter Try.func17, Try.ntmps17
  go_wp2_with (first | (go_at_call 57; apply Calls.mono; apply eqIntS_c; ((first | (apply Rs.at0; assumption) | (apply Ow.rs0; assumption)); exact kf_); ((first | (apply Rs.at0; assumption) | (apply Ow.rs0; assumption)); exact kf_); rintro E w1 ⟨rfl, hb⟩; have hst := xr hb; (try simp only [zA, zC, zD, zN] at hst); obtain ⟨hc, hf, hz⟩ := hst) | (go_at_call 47; apply Calls.mono; apply eqMktHouse_c; ((first | (apply RM.at0; assumption)); exact kf_); ((first | (apply RM.at0; assumption)); exact kf_); rintro E w1 ⟨rfl, hb⟩; have hst := xr hb; (try simp only [zA, zC, zD, zN] at hst); obtain ⟨hc, hf, hz⟩ := hst) | (go_at_call 78; apply Calls.mono; apply eqWldLineS_c; ((first | (apply Rs.at0; assumption) | (apply Ow.rs0; assumption)); exact kf_); ((first | (apply Rs.at0; assumption) | (apply Ow.rs0; assumption)); exact kf_); rintro E w1 ⟨rfl, hb⟩; have hst := xr hb; (try simp only [zA, zC, zD, zN] at hst); obtain ⟨hc, hf, hz⟩ := hst) | (go_at_call 79; apply Calls.mono; apply eqGatGateS_c; ((first | (apply RG.at0; assumption)); exact kf_); ((first | (apply RG.at0; assumption)); exact kf_); rintro E w1 ⟨rfl, hb⟩; have hst := xr hb; (try simp only [zA, zC, zD, zN] at hst); obtain ⟨hc, hf, hz⟩ := hst) | (go_at_call 80; apply Calls.mono; apply eqWldMsgS_c; ((first | (apply RX.at0; assumption)); exact kf_); ((first | (apply RX.at0; assumption)); exact kf_); rintro E w1 ⟨rfl, hb⟩; have hst := xr hb; (try simp only [zA, zC, zD, zN] at hst); obtain ⟨hc, hf, hz⟩ := hst))
  all_goals (go_ret; refine ⟨ret_b ?_, ext_⟩; go_tidy; simp only [world_ext])
  all_goals (first | (simp [*]; done) | (simp_all; done))
end Go.Proofs.Ytncoiknpkebgoaa

namespace Go.Proofs.Ytncoiknpkebgoaa
set_option maxRecDepth 100000
set_option linter.unusedSimpArgs false
set_option linter.unusedVariables false
open Go.RowKit Go
set_option maxHeartbeats 400000

theorem sumFrom_cons (s x : Int) (xs : List Int) : Sw.sumFrom s (x :: xs) = Sw.sumFrom (wrap64 (s + x)) xs := rfl
theorem heldFrom_cons (s : Int) (d : Sw.Deal) (ds : List Sw.Deal) : Sw.heldFrom s (d :: ds) = Sw.heldFrom (Sw.heldStep s d) ds := rfl
theorem heldStep_y {s : Int} {d : Sw.Deal} (h : 0 < d.buyer) : Sw.heldStep s d = wrap64 (s + d.price) := by simp [Sw.heldStep, Sw.held, h]
theorem heldStep_n {s : Int} {d : Sw.Deal} (h : ¬ 0 < d.buyer) : Sw.heldStep s d = s := by simp [Sw.heldStep, Sw.held, h]

theorem sMonSum_c (A : Option Addr) (c n : Nat) (xs : List Int) (w : World) (hxs : RI w 0 A c n xs) : Calls Try.prog 73 #[.slice A n c] w fun E w' => E = .returned (.int .i64 (Sw.monSum xs)) ∧ w = w' := by
  have hl := Lib.hid hxs.1
  have hbig := Rs.big hxs
  go_enter Try.func73, Try.ntmps73
  go_wp2
  go_loop [3, 4] (fun v i => ∃ (k : Nat) (s : Int), k ≤ n ∧ i = .int .i64 k ∧ v = .int .i64 s ∧ Sw.monSum xs = Sw.sumFrom s (xs.drop k)) (fun _ i => n - (intOf i).toNat)
  case atStart => exact ⟨0, 0, Nat.zero_le _, rfl, rfl, rfl⟩
  case round =>
    obtain ⟨k, s, hk, rfl, rfl, hrel⟩ := hrel
    by_cases hlt : k < n
    · obtain ⟨g, off, y, rfl, hg0, hg, hd, hy, hc⟩ := at_I hxs hlt
      rw [hd, sumFrom_cons] at hrel
      have Hrel := Lib.hid hrel; clear hrel hd hy
      go_wp2
      go_round
      case rel => exact ⟨k + 1, _, by omega, by go_num, rfl, Hrel.out⟩
      case measure => simp [intOf]; omega
    · have Hrel := Lib.hid hrel; clear hrel
      go_wp2
      go_ret
      refine ⟨ret_i ?_, rfl⟩
      rw [Hrel.out, List.drop_of_length_le (by have := hl.out; omega)]
      rfl
theorem iMonSum_c (A : Option Addr) (c n : Nat) (xs : List Int) (w : World) (hxs : RI w 0 A c n xs) : Calls Try.prog 42 #[.slice A n c] w fun E w' => E = .returned (.int .i64 (Sw.monSum xs)) ∧ w = w' := by
  have hl := Lib.hid hxs.1
  have hbig := Rs.big hxs
  go_enter Try.func42, Try.ntmps42
  go_wp2
  go_loop [3, 8] (fun v i => ∃ (k : Nat) (s : Int), k ≤ n ∧ i = .int .i64 k ∧ v = .int .i64 s ∧ Sw.monSum xs = Sw.sumFrom s (xs.drop k)) (fun _ i => n - (intOf i).toNat)
  case atStart => exact ⟨0, 0, Nat.zero_le _, rfl, rfl, rfl⟩
  case round =>
    obtain ⟨k, s, hk, rfl, rfl, hrel⟩ := hrel
    by_cases hlt : k < n
    · obtain ⟨g, off, y, rfl, hg0, hg, hd, hy, hc⟩ := at_I hxs hlt
      rw [hd, sumFrom_cons] at hrel
      have Hrel := Lib.hid hrel; clear hrel hd hy
      go_wp2
      go_round
      case rel => exact ⟨k + 1, _, by omega, by go_num, rfl, Hrel.out⟩
      case measure => simp [intOf]; omega
    · have Hrel := Lib.hid hrel; clear hrel
      go_wp2
      go_ret
      refine ⟨ret_i ?_, rfl⟩
      rw [Hrel.out, List.drop_of_length_le (by have := hl.out; omega)]
      rfl

theorem iHeld_c (d : Sw.Deal) (w : World) : Calls Try.prog 142 #[.agg #[.int .i64 d.ticket, .int .i64 d.seller, .int .i64 d.price, .int .i64 d.buyer, .int .i64 d.due]] w fun E w' => E = .returned (.bool (Sw.held d)) ∧ Ex w w' := by
  go_enter Try.func142, Try.ntmps142
  go_wp2_with fail
  go_ret
  exact ⟨rfl, ext_⟩

theorem sMktHeld_c (aL : Option Addr) (aLc aLn : Nat) (aP : Option Addr) (aPc aPn : Nat) (aD : Option Addr) (aDc aDn : Nat) (aN : Option Addr) (aNc aNn : Nat) (aS : Option Addr) (aSc aSn : Nat) (m : Sw.Mkt) (w : World) (hm : RM w 0 aL aLc aLn aP aPc aPn aD aDc aDn aN aNc aNn aS aSc aSn m) : Calls Try.prog 74 #[.agg #[.slice aL aLn aLc, .slice aP aPn aPc, .slice aD aDn aDc, .int .i64 m.clock, .slice aN aNn aNc, .slice aS aSn aSc]] w fun E w' => E = .returned (.int .i64 (Sw.mktHeld m)) ∧ Ex w w' := by
  have hxs := hm.deals
  clear hm
  have hl := Lib.hid hxs.1
  have hbig := Rs.big hxs
  go_enter Try.func74, Try.ntmps74
  go_wp2_with fail
  go_loop [3, 4] (fun v i => ∃ (k : Nat) (s : Int), k ≤ aDn ∧ i = .int .i64 k ∧ v = .int .i64 s ∧ Sw.mktHeld m = Sw.heldFrom s (m.deals.drop k)) (fun _ i => aDn - (intOf i).toNat)
  case atStart => exact ⟨0, 0, Nat.zero_le _, rfl, rfl, rfl⟩
  case round =>
    obtain ⟨k, s, hk, rfl, rfl, hrel⟩ := hrel
    by_cases hlt : k < aDn
    · obtain ⟨g, off, y, rfl, hg0, hg, hd, hy, q0, q1, q2, q3, q4⟩ := at_D hxs hlt
      rw [hd, heldFrom_cons] at hrel
      have Hrel := Lib.hid hrel; clear hrel hd hy
      by_cases hb : 0 < y.buyer
      · go_wp2
        go_round
        case rel => exact ⟨k + 1, _, by omega, by go_num, rfl, by rw [Hrel.out, heldStep_y hb]⟩
        case measure => simp [intOf]; omega
      · go_wp2
        go_round
        case rel => exact ⟨k + 1, _, by omega, by go_num, rfl, by rw [Hrel.out, heldStep_n hb]⟩
        case measure => simp [intOf]; omega
    · have Hrel := Lib.hid hrel; clear hrel
      go_wp2
      go_ret
      refine ⟨ret_i ?_, ext_⟩
      rw [Hrel.out, List.drop_of_length_le (by have := hl.out; omega)]
      rfl
theorem iMktHeld_c (aL : Option Addr) (aLc aLn : Nat) (aP : Option Addr) (aPc aPn : Nat) (aD : Option Addr) (aDc aDn : Nat) (aN : Option Addr) (aNc aNn : Nat) (aS : Option Addr) (aSc aSn : Nat) (m : Sw.Mkt) (w : World) (hm : RM w 0 aL aLc aLn aP aPc aPn aD aDc aDn aN aNc aNn aS aSc aSn m) : Calls Try.prog 62 #[.agg #[.slice aL aLn aLc, .slice aP aPn aPc, .slice aD aDn aDc, .int .i64 m.clock, .slice aN aNn aNc, .slice aS aSn aSc]] w fun E w' => E = .returned (.int .i64 (Sw.mktHeld m)) ∧ Ex w w' := by
  have hxs := hm.deals
  clear hm
  have hl := Lib.hid hxs.1
  have hbig := Rs.big hxs
  go_enter Try.func62, Try.ntmps62
  go_wp2_with fail
  go_loopw [3, 9] (fun v i wr => ∃ (k : Nat) (s : Int), k ≤ aDn ∧ i = .int .i64 k ∧ v = .int .i64 s ∧ Ex w wr ∧ Sw.mktHeld m = Sw.heldFrom s (m.deals.drop k)) (fun _ i _ => aDn - (intOf i).toNat)
  case atStart => exact ⟨0, 0, Nat.zero_le _, rfl, rfl, ext_, rfl⟩
  case round =>
    obtain ⟨k, s, hk, rfl, rfl, hb2, hrel⟩ := hrel
    have hst := Ex.rules hb2 rfl
    obtain ⟨hc2, hf2, hz2⟩ := hst
    by_cases hlt : k < aDn
    · obtain ⟨g, off, y, rfl, hg0, hg, hd, hy, q0, q1, q2, q3, q4⟩ := at_D hxs hlt
      rw [hd, heldFrom_cons] at hrel
      have Hrel := Lib.hid hrel; clear hrel hd hy
      cases hb : Sw.held y with
      | true =>
        go_wp2_with (go_at_call 142; apply Calls.mono; apply (iHeld_c y); rintro E w1 ⟨rfl, hb⟩; have hst := xr hb; (try simp only [zA, zC, zD, zN] at hst); obtain ⟨hc, hf, hz⟩ := hst)
        go_roundw
        case rel => exact ⟨k + 1, _, by omega, by go_num, rfl, ext_, by rw [Hrel.out, Sw.heldStep, if_pos (by assumption)]⟩
        case measure => simp [intOf]; omega
      | false =>
        go_wp2_with (go_at_call 142; apply Calls.mono; apply (iHeld_c y); rintro E w1 ⟨rfl, hb⟩; have hst := xr hb; (try simp only [zA, zC, zD, zN] at hst); obtain ⟨hc, hf, hz⟩ := hst)
        go_roundw
        case rel => exact ⟨k + 1, _, by omega, by go_num, rfl, ext_, by rw [Hrel.out, Sw.heldStep, if_neg (by simp [*])]⟩
        case measure => simp [intOf]; omega
    · have Hrel := Lib.hid hrel; clear hrel
      go_wp2_with fail
      go_ret
      refine ⟨ret_i ?_, ext_⟩
      rw [Hrel.out, List.drop_of_length_le (by have := hl.out; omega)]
      rfl
theorem sWldMoney_c (aF : Option Addr) (aFc aFn : Nat) (aL : Option Addr) (aLc aLn : Nat) (aP : Option Addr) (aPc aPn : Nat) (aD : Option Addr) (aDc aDn : Nat) (aN : Option Addr) (aNc aNn : Nat) (aS : Option Addr) (aSc aSn : Nat) (aI : Option Addr) (aIc aIn : Nat) (aG : Option Addr) (aGc aGn : Nat) (aB : Option Addr) (aBc aBn : Nat) (x : Sw.World) (w : World) (hx : RW w 0 aF aFc aFn aL aLc aLn aP aPc aPn aD aDc aDn aN aNc aNn aS aSc aSn aI aIc aIn aG aGc aGn aB aBc aBn x) : Calls Try.prog 14 #[.agg #[.slice aF aFn aFc, .slice aL aLn aLc, .slice aP aPn aPc, .slice aD aDn aDc, .int .i64 x.market.clock, .slice aN aNn aNc, .slice aS aSn aSc, .slice aI aIn aIc, .slice aG aGn aGc, .slice aB aBn aBc]] w fun E w' => E = .returned (.int .i64 (Sw.wldMoney x)) ∧ Ex w w' := by
  have hm := hx.mkt
  have hp := hm.purses
  clear hx
  go_enter Try.func14, Try.ntmps14
  go_wp2_with (first | (go_at_call 73; apply Calls.mono; apply sMonSum_c; ((first | (apply Rs.at0; assumption) | (apply Ow.rs0; assumption)); exact kf_); rintro E w' ⟨rfl, rfl⟩) | (go_at_call 74; apply Calls.mono; apply sMktHeld_c; ((first | (apply RM.at0; assumption)); exact kf_); rintro E w1 ⟨rfl, hb⟩; have hst := xr hb; (try simp only [zA, zC, zD, zN] at hst); obtain ⟨hc, hf, hz⟩ := hst))
  try (refine wp_name ?_; intro W0 hb0; have hst := xr hb0; (try simp only [zA, zC, zD, zN] at hst); obtain ⟨hc0, hf0, hz0⟩ := hst; go_region_held3 (fun w' => Held W0 w') ((first | with_reducible assumption | with_reducible exact Held.start _ | with_reducible exact Held.of (by assumption) | with_reducible exact Held.ex (by assumption) (by assumption) | ((repeat (first | with_reducible refine Held.set ?_ (by simp only [zA, zC, zD, zN]; omega) | with_reducible refine Held.alloc ?_ _ | with_reducible refine Held.drew ?_)); (first | with_reducible assumption | with_reducible exact Held.refl _ | with_reducible exact Held.of (by assumption) | with_reducible exact Held.ex (by assumption) (by assumption))) | exact Held.of (by exact ext_))) ((first | (go_at_call 73; apply Calls.mono; apply sMonSum_c; ((first | (apply Rs.at0; assumption) | (apply Ow.rs0; assumption)); exact kf_); rintro E w' ⟨rfl, rfl⟩) | (go_at_call 74; apply Calls.mono; apply sMktHeld_c; ((first | (apply RM.at0; assumption)); exact kf_); rintro E w1 ⟨rfl, hb⟩; have hst := xr hb; (try simp only [zA, zC, zD, zN] at hst); obtain ⟨hc, hf, hz⟩ := hst))); all_goals (have hb := And.right (by assumption : Held W0 _); have hst := xr hb; (try simp only [zA, zC, zD, zN] at hst); obtain ⟨hc, hf, hz⟩ := hst))
  go_wp2
  go_ret
  exact ⟨ret_i (IntWalk.i64_left _), ext_⟩
theorem iWldMoney_c (aF : Option Addr) (aFc aFn : Nat) (aL : Option Addr) (aLc aLn : Nat) (aP : Option Addr) (aPc aPn : Nat) (aD : Option Addr) (aDc aDn : Nat) (aN : Option Addr) (aNc aNn : Nat) (aS : Option Addr) (aSc aSn : Nat) (aI : Option Addr) (aIc aIn : Nat) (aG : Option Addr) (aGc aGn : Nat) (aB : Option Addr) (aBc aBn : Nat) (x : Sw.World) (w : World) (hx : RW w 0 aF aFc aFn aL aLc aLn aP aPc aPn aD aDc aDn aN aNc aNn aS aSc aSn aI aIc aIn aG aGc aGn aB aBc aBn x) : Calls Try.prog 16 #[.agg #[.slice aF aFn aFc, .slice aL aLn aLc, .slice aP aPn aPc, .slice aD aDn aDc, .int .i64 x.market.clock, .slice aN aNn aNc, .slice aS aSn aSc, .slice aI aIn aIc, .slice aG aGn aGc, .slice aB aBn aBc]] w fun E w' => E = .returned (.int .i64 (Sw.wldMoney x)) ∧ Ex w w' := by
  have hm := hx.mkt
  have hp := hm.purses
  clear hx
  go_enter Try.func16, Try.ntmps16
  go_wp2_with (first | (go_at_call 42; apply Calls.mono; apply iMonSum_c; ((first | (apply Rs.at0; assumption) | (apply Ow.rs0; assumption)); exact kf_); rintro E w' ⟨rfl, rfl⟩) | (go_at_call 62; apply Calls.mono; apply iMktHeld_c; ((first | (apply RM.at0; assumption)); exact kf_); rintro E w1 ⟨rfl, hb⟩; have hst := xr hb; (try simp only [zA, zC, zD, zN] at hst); obtain ⟨hc, hf, hz⟩ := hst))
  try (refine wp_name ?_; intro W0 hb0; have hst := xr hb0; (try simp only [zA, zC, zD, zN] at hst); obtain ⟨hc0, hf0, hz0⟩ := hst; go_region_held3 (fun w' => Held W0 w') ((first | with_reducible assumption | with_reducible exact Held.start _ | with_reducible exact Held.of (by assumption) | with_reducible exact Held.ex (by assumption) (by assumption) | ((repeat (first | with_reducible refine Held.set ?_ (by simp only [zA, zC, zD, zN]; omega) | with_reducible refine Held.alloc ?_ _ | with_reducible refine Held.drew ?_)); (first | with_reducible assumption | with_reducible exact Held.refl _ | with_reducible exact Held.of (by assumption) | with_reducible exact Held.ex (by assumption) (by assumption))) | exact Held.of (by exact ext_))) ((first | (go_at_call 42; apply Calls.mono; apply iMonSum_c; ((first | (apply Rs.at0; assumption) | (apply Ow.rs0; assumption)); exact kf_); rintro E w' ⟨rfl, rfl⟩) | (go_at_call 62; apply Calls.mono; apply iMktHeld_c; ((first | (apply RM.at0; assumption)); exact kf_); rintro E w1 ⟨rfl, hb⟩; have hst := xr hb; (try simp only [zA, zC, zD, zN] at hst); obtain ⟨hc, hf, hz⟩ := hst))); all_goals (have hb := And.right (by assumption : Held W0 _); have hst := xr hb; (try simp only [zA, zC, zD, zN] at hst); obtain ⟨hc, hf, hz⟩ := hst))
  go_wp2
  go_ret
  exact ⟨ret_i (IntWalk.i64_left _), ext_⟩
end Go.Proofs.Ytncoiknpkebgoaa

namespace Go.Proofs.Ytncoiknpkebgoaa
set_option maxRecDepth 100000
set_option linter.unusedSimpArgs false
set_option linter.unusedVariables false
open Go.RowKit Go
set_option maxHeartbeats 1000000

theorem iMonTurn_c (A : Option Addr) (c n : Nat) (xs : List Int) (who v : Int) (w : World) (hxs : RI w 0 A c n xs) (hn : n ≤ 4194304) : Calls Try.prog 188 #[.slice A n c, .int .i64 who, .int .i64 v] w fun E w' => ∃ A' c', E = .returned (.tuple #[.slice A' n c', .bool (Sw.turnMay xs who v)]) ∧ OwI w' w.heap.size A' c' n (Sw.monTurn xs who v) ∧ Ex w w' := by
  cases g1 : Sw.monOk xs
  case false =>
    have e : Sw.turnMay xs who v = false := by simp [Sw.turnMay, g1]
    rw [e, monTurn_n e]; clear e
    go_enter Try.func188, Try.ntmps188
    go_wp2_with (first | (go_at_call 102; apply Calls.mono; apply iCloneInts_c; ((first | (apply Rs.at0; assumption) | (apply Ow.rs0; assumption) | (apply OwT.rs0; assumption)); exact kf_); (first | assumption | omega); rintro E w1 ⟨A1, c1, rfl, ho1, hb⟩; have hst := xr hb; (try simp only [zA, zC, zD] at hst); obtain ⟨hc, hf, hz⟩ := hst) | (go_at_call 105; apply Calls.mono; apply iMonOk_c; ((first | (apply Rs.at0; assumption) | (apply Ow.rs0; assumption) | (apply OwT.rs0; assumption)); exact kf_); rintro E w1 ⟨rfl, hb⟩; have hst := xr hb; (try simp only [zA, zC, zD] at hst); obtain ⟨hc, hf, hz⟩ := hst))
    go_ret2
    exact ⟨A1, c1, rfl, (ho1.keep (by (exact kf_))).less (by exact sz_), ext_⟩
  have h5 := monOk_len g1
  have hn5 : n = 5 := by rw [hxs.1, h5]
  subst hn5
  clear h5
  cases g2 : Sw.inR who 1 5
  case false =>
    have e : Sw.turnMay xs who v = false := by simp [Sw.turnMay, g2]
    rw [e, monTurn_n e]; clear e
    go_enter Try.func188, Try.ntmps188
    go_wp2_with (first | (go_at_call 102; apply Calls.mono; apply iCloneInts_c; ((first | (apply Rs.at0; assumption) | (apply Ow.rs0; assumption) | (apply OwT.rs0; assumption)); exact kf_); (first | assumption | omega); rintro E w1 ⟨A1, c1, rfl, ho1, hb⟩; have hst := xr hb; (try simp only [zA, zC, zD] at hst); obtain ⟨hc, hf, hz⟩ := hst) | (go_at_call 105; apply Calls.mono; apply iMonOk_c; ((first | (apply Rs.at0; assumption) | (apply Ow.rs0; assumption) | (apply OwT.rs0; assumption)); exact kf_); rintro E w1 ⟨rfl, hb⟩; have hst := xr hb; (try simp only [zA, zC, zD] at hst); obtain ⟨hc, hf, hz⟩ := hst) | (go_at_call 136; refine (isUser_c _ _).mono ?_; rintro E w' ⟨rfl, rfl⟩) | (go_at_call 113; refine (in_c _ _ _ _).mono ?_; rintro E w' ⟨rfl, rfl⟩))
    go_ret2
    exact ⟨A1, c1, rfl, (ho1.keep (by (exact kf_))).less (by exact sz_), ext_⟩
  cases g3 : Sw.inR v (-100000) 100000
  case false =>
    have e : Sw.turnMay xs who v = false := by simp [Sw.turnMay, g3]
    rw [e, monTurn_n e]; clear e
    go_enter Try.func188, Try.ntmps188
    go_wp2_with (first | (go_at_call 102; apply Calls.mono; apply iCloneInts_c; ((first | (apply Rs.at0; assumption) | (apply Ow.rs0; assumption) | (apply OwT.rs0; assumption)); exact kf_); (first | assumption | omega); rintro E w1 ⟨A1, c1, rfl, ho1, hb⟩; have hst := xr hb; (try simp only [zA, zC, zD] at hst); obtain ⟨hc, hf, hz⟩ := hst) | (go_at_call 105; apply Calls.mono; apply iMonOk_c; ((first | (apply Rs.at0; assumption) | (apply Ow.rs0; assumption) | (apply OwT.rs0; assumption)); exact kf_); rintro E w1 ⟨rfl, hb⟩; have hst := xr hb; (try simp only [zA, zC, zD] at hst); obtain ⟨hc, hf, hz⟩ := hst) | (go_at_call 136; refine (isUser_c _ _).mono ?_; rintro E w' ⟨rfl, rfl⟩) | (go_at_call 113; refine (in_c _ _ _ _).mono ?_; rintro E w' ⟨rfl, rfl⟩))
    go_ret2
    exact ⟨A1, c1, rfl, (ho1.keep (by (exact kf_))).less (by exact sz_), ext_⟩
  have hw := Sw.inR_iff.1 g2
  have hv := Sw.inR_iff.1 g3
  obtain ⟨k, rfl⟩ : ∃ k : Nat, who = k + 1 := ⟨(who - 1).toNat, by omega⟩
  have hk : k < 5 := by omega
  obtain ⟨g, off, y, rfl, hg0, hg, hd, hy, hc0⟩ := at_I hxs hk
  have hyb : 0 ≤ y ∧ y ≤ 100000 := (Sw.monOk_iff.1 g1).2 y (List.mem_of_getElem? hy)
  have hpu := purse_at hy
  have Hpu := Lib.hid hpu
  have Hy := Lib.hid hy
  clear hd hy hpu
  obtain ⟨y0, y1⟩ := hyb
  obtain ⟨v0, v1⟩ := hv
  clear hw
  have t2 : IntKind.i64.wrap ((k : Int) + 1 - 1) = k := by rw [IntWalk.i64_in _ (by omega)]; omega
  cases g4 : Sw.inR (y + v) 0 100000
  case false =>
    have e : Sw.turnMay xs (k + 1) v = false := by simp [Sw.turnMay, Hpu.out, g4]
    rw [e, monTurn_n e]; clear e
    go_enter Try.func188, Try.ntmps188
    go_wp2_with (go_at_call 102; apply Calls.mono; apply iCloneInts_c; ((first | (apply Rs.at0; assumption) | (apply Ow.rs0; assumption) | (apply OwT.rs0; assumption)); exact kf_); (first | assumption | omega); rintro E w1 ⟨A1, c1, rfl, ho1, hb⟩; have hst := xr hb; (try simp only [zA, zC, zD] at hst); obtain ⟨hc, hf, hz⟩ := hst)
    obtain ⟨g', x', hA, hlo, hlt, hx, hcx, hfz⟩ := at_OI ho1 hk
    obtain rfl : x' = y := by have := Hy.out; rw [hx] at this; exact Option.some.inj this
    subst hA
    clear hx
    go_wp2_with (first | (go_at_call 105; apply Calls.mono; apply iMonOk_c; ((first | (apply Rs.at0; assumption) | (apply Ow.rs0; assumption) | (apply OwT.rs0; assumption)); exact kf_); rintro E w1 ⟨rfl, hb⟩; have hst := xr hb; (try simp only [zA, zC, zD] at hst); obtain ⟨hc, hf, hz⟩ := hst) | (go_at_call 136; refine (isUser_c _ _).mono ?_; rintro E w' ⟨rfl, rfl⟩) | (go_at_call 113; refine (in_c _ _ _ _).mono ?_; rintro E w' ⟨rfl, rfl⟩))
    go_ret2
    exact ⟨_, c1, rfl, (ho1.keep (by (exact kf_))).less (by exact sz_), ext_⟩
  have e : Sw.turnMay xs (k + 1) v = true := by simp [Sw.turnMay, g1, g2, g3, Hpu.out, g4]
  rw [e, monTurn_y e]; clear e
  go_enter Try.func188, Try.ntmps188
  go_wp2_with (go_at_call 102; apply Calls.mono; apply iCloneInts_c; ((first | (apply Rs.at0; assumption) | (apply Ow.rs0; assumption) | (apply OwT.rs0; assumption)); exact kf_); (first | assumption | omega); rintro E w1 ⟨A1, c1, rfl, ho1, hb⟩; have hst := xr hb; (try simp only [zA, zC, zD] at hst); obtain ⟨hc, hf, hz⟩ := hst)
  obtain ⟨g', x', hA, hlo, hlt, hx, hcx, hfz⟩ := at_OI ho1 hk
  obtain rfl : x' = y := by have := Hy.out; rw [hx] at this; exact Option.some.inj this
  subst hA
  clear hx
  apply Calls.mono; apply iMonOk_c; (first | assumption | ((first | (apply Rs.at0; assumption) | (apply Ow.rs0; assumption) | (apply OwT.rs0; assumption)); exact kf_) | omega); rintro E w3 ⟨rfl, hb3⟩; have hst := xr hb3; (try simp only [zA, zC, zD] at hst); obtain ⟨hc3, hf3, hz3⟩ := hst
  have ho3 := Ow.keep ho1 (KF.ex hb3 (KF.refl _ _))
  go_wp2_with (first | (go_at_call 136; refine (isUser_c _ _).mono ?_; rintro E w' ⟨rfl, rfl⟩) | (go_at_call 113; refine (in_c _ _ _ _).mono ?_; rintro E w' ⟨rfl, rfl⟩))
  go_ret2
  refine ⟨_, _, rfl, ?_, ext_⟩
  have r := OI_set ho3 rfl Hy.out (x' + v)
  rw [Sw.turned, Hpu.out, show ((k : Int) + 1 - 1).toNat = k from by omega]
  exact r.less (by omega)

theorem iReqOk_c (r : Sw.Req) (w : World) : Calls Try.prog 108 #[.agg #[.int .i64 r.user, .int .i64 r.n, .int .i64 r.kind, .int .i64 r.ticket, .int .i64 r.who, .int .i64 r.price]] w fun E w' => E = .returned (.bool (Sw.reqOk r)) ∧ Ex w w' := by
  cases g1 : Sw.inR r.user 1 5
  case false => go_enter Try.func108, Try.ntmps108; go_wp2_with (first | (go_at_call 113; refine (in_c _ _ _ _).mono ?_; rintro E w' ⟨rfl, rfl⟩) | (go_at_call 136; refine (isUser_c _ _).mono ?_; rintro E w' ⟨rfl, rfl⟩) | (go_at_call 91; refine (isTicket_c _ _).mono ?_; rintro E w' ⟨rfl, rfl⟩) | (go_at_call 177; refine (isFace_c _ _).mono ?_; rintro E w' ⟨rfl, rfl⟩)); go_ret; exact ⟨ret_b (by simp [Sw.reqOk, g1]), ext_⟩
  cases g2 : Sw.inR r.n 1 99999
  case false => go_enter Try.func108, Try.ntmps108; go_wp2_with (first | (go_at_call 113; refine (in_c _ _ _ _).mono ?_; rintro E w' ⟨rfl, rfl⟩) | (go_at_call 136; refine (isUser_c _ _).mono ?_; rintro E w' ⟨rfl, rfl⟩) | (go_at_call 91; refine (isTicket_c _ _).mono ?_; rintro E w' ⟨rfl, rfl⟩) | (go_at_call 177; refine (isFace_c _ _).mono ?_; rintro E w' ⟨rfl, rfl⟩)); go_ret; exact ⟨ret_b (by simp [Sw.reqOk, g2]), ext_⟩
  cases g3 : Sw.inR r.kind 1 6
  case false => go_enter Try.func108, Try.ntmps108; go_wp2_with (first | (go_at_call 113; refine (in_c _ _ _ _).mono ?_; rintro E w' ⟨rfl, rfl⟩) | (go_at_call 136; refine (isUser_c _ _).mono ?_; rintro E w' ⟨rfl, rfl⟩) | (go_at_call 91; refine (isTicket_c _ _).mono ?_; rintro E w' ⟨rfl, rfl⟩) | (go_at_call 177; refine (isFace_c _ _).mono ?_; rintro E w' ⟨rfl, rfl⟩)); go_ret; exact ⟨ret_b (by simp [Sw.reqOk, g3]), ext_⟩
  cases g4 : Sw.inR r.ticket 0 7
  case false => go_enter Try.func108, Try.ntmps108; go_wp2_with (first | (go_at_call 113; refine (in_c _ _ _ _).mono ?_; rintro E w' ⟨rfl, rfl⟩) | (go_at_call 136; refine (isUser_c _ _).mono ?_; rintro E w' ⟨rfl, rfl⟩) | (go_at_call 91; refine (isTicket_c _ _).mono ?_; rintro E w' ⟨rfl, rfl⟩) | (go_at_call 177; refine (isFace_c _ _).mono ?_; rintro E w' ⟨rfl, rfl⟩)); go_ret; exact ⟨ret_b (by simp [Sw.reqOk, g4]), ext_⟩
  have e : Sw.reqOk r = (if r.kind = 1 then Sw.inR r.who 1 5 && Sw.inR r.price 1 50 else decide (r.who = 0) && (if r.kind = 2 then Sw.inR r.price 1 999 else decide (r.price = 0))) := by simp [Sw.reqOk, g1, g2, g3, g4]
  have He := Lib.hid e; clear e
  by_cases k1 : r.kind = 1
  · have k1' : (r.kind == 1) = true := by simp [k1]
    have K1 := Lib.hid k1; clear k1
    cases g5 : Sw.inR r.who 1 5
    all_goals
      go_enter Try.func108, Try.ntmps108
      go_wp2_with (first | (go_at_call 113; refine (in_c _ _ _ _).mono ?_; rintro E w' ⟨rfl, rfl⟩) | (go_at_call 136; refine (isUser_c _ _).mono ?_; rintro E w' ⟨rfl, rfl⟩) | (go_at_call 91; refine (isTicket_c _ _).mono ?_; rintro E w' ⟨rfl, rfl⟩) | (go_at_call 177; refine (isFace_c _ _).mono ?_; rintro E w' ⟨rfl, rfl⟩))
      go_ret
      exact ⟨ret_b (by rw [He.out, if_pos K1.out]; simp [g5]), ext_⟩
  have k1' : (r.kind == 1) = false := by simp [k1]
  cases g5 : (r.who == 0)
  all_goals
    by_cases k2 : r.kind = 2
    · have k2' : (r.kind == 2) = true := by simp [k2]
      have K2 := Lib.hid k2; clear k2
      cases g6 : Sw.inR r.price 1 999
      all_goals
        go_enter Try.func108, Try.ntmps108
        go_wp2_with (first | (go_at_call 113; refine (in_c _ _ _ _).mono ?_; rintro E w' ⟨rfl, rfl⟩) | (go_at_call 136; refine (isUser_c _ _).mono ?_; rintro E w' ⟨rfl, rfl⟩) | (go_at_call 91; refine (isTicket_c _ _).mono ?_; rintro E w' ⟨rfl, rfl⟩) | (go_at_call 177; refine (isFace_c _ _).mono ?_; rintro E w' ⟨rfl, rfl⟩))
        go_ret
        exact ⟨ret_b (by rw [He.out, if_neg k1, if_pos K2.out]; rw [← beqI, g5, g6]; rfl), ext_⟩
    have k2' : (r.kind == 2) = false := by simp [k2]
    cases g6 : (r.price == 0)
    all_goals
      go_enter Try.func108, Try.ntmps108
      go_wp2_with (first | (go_at_call 113; refine (in_c _ _ _ _).mono ?_; rintro E w' ⟨rfl, rfl⟩) | (go_at_call 136; refine (isUser_c _ _).mono ?_; rintro E w' ⟨rfl, rfl⟩) | (go_at_call 91; refine (isTicket_c _ _).mono ?_; rintro E w' ⟨rfl, rfl⟩) | (go_at_call 177; refine (isFace_c _ _).mono ?_; rintro E w' ⟨rfl, rfl⟩))
      go_ret
      exact ⟨ret_b (by rw [He.out, if_neg k1, if_neg k2]; rw [← beqI, ← beqI, g5, g6]; rfl), ext_⟩

theorem iDealOk_c (aL : Option Addr) (aLc aLn : Nat) (aP : Option Addr) (aPc aPn : Nat) (aD : Option Addr) (aDc aDn : Nat) (aN : Option Addr) (aNc aNn : Nat) (aS : Option Addr) (aSc aSn : Nat) (m : Sw.Mkt) (d : Sw.Deal) (A : Option Addr) (c : Nat) (rows : List Sw.Row) (w : World) (hrr : RR w 0 A c 8 rows) (hck0 : 0 ≤ m.clock) (hck1 : m.clock ≤ 99999) : Calls Try.prog 147 #[.agg #[.slice aL aLn aLc, .slice aP aPn aPc, .slice aD aDn aDc, .int .i64 m.clock, .slice aN aNn aNc, .slice aS aSn aSc], .agg #[.int .i64 d.ticket, .int .i64 d.seller, .int .i64 d.price, .int .i64 d.buyer, .int .i64 d.due], .slice A 8 c] w fun E w' => E = .returned (.bool (Sw.dealOk m.clock rows d)) ∧ Ex w w' := by
  cases c1 : Sw.inR d.ticket 0 7
  case false =>
    go_enter Try.func147, Try.ntmps147; go_wp2_with (first | (go_at_call 91; refine (isTicket_c _ _).mono ?_; rintro E w' ⟨rfl, rfl⟩) | (go_at_call 136; refine (isUser_c _ _).mono ?_; rintro E w' ⟨rfl, rfl⟩)); go_ret; exact ⟨ret_b (by simp [Sw.dealOk, c1]), ext_⟩
  cases c2 : Sw.inR d.seller 1 5
  case false =>
    go_enter Try.func147, Try.ntmps147; go_wp2_with (first | (go_at_call 91; refine (isTicket_c _ _).mono ?_; rintro E w' ⟨rfl, rfl⟩) | (go_at_call 136; refine (isUser_c _ _).mono ?_; rintro E w' ⟨rfl, rfl⟩)); go_ret; exact ⟨ret_b (by simp [Sw.dealOk, c2]), ext_⟩
  obtain ⟨y0, y7⟩ := Sw.inR_iff.1 c1
  obtain ⟨t, ht⟩ := Int.eq_ofNat_of_zero_le y0
  have e0 : d.ticket.toNat = t := by omega
  have ht8 : t < 8 := by omega
  have y8 : d.ticket < 8 := by omega
  have HT := Lib.hid ht
  clear ht
  obtain ⟨gr, offr, r, rfl, hgr0, hgr, hdr, hyr, r0, r1, r2⟩ := at_R hrr ht8
  have hrow : Sw.rowAt rows d.ticket = r := by simp [Sw.rowAt, e0, hyr]
  have e : Sw.dealOk m.clock rows d = (decide (r.who = d.seller) && !r.used && Sw.inR d.price 1 (Sw.entCap r.face) && (if d.buyer = 0 then decide (d.due = 0) else Sw.inR d.buyer 1 5 && decide (d.buyer ≠ d.seller) && Sw.inR d.due m.clock (m.clock + 5))) := by
    rw [Sw.dealOk, hrow, c1, c2]; simp
  have He := Lib.hid e
  clear hdr hyr hrow e
  obtain ⟨rw_, rf, ru⟩ := r
  dsimp only at r0 r1 r2
  cases c3 : (rw_ == d.seller)
  case false =>
    have c3' : (rw_ != d.seller) = true := by rw [bne, c3]; rfl
    go_enter Try.func147, Try.ntmps147; go_wp2_with (first | (go_at_call 91; refine (isTicket_c _ _).mono ?_; rintro E w' ⟨rfl, rfl⟩) | (go_at_call 136; refine (isUser_c _ _).mono ?_; rintro E w' ⟨rfl, rfl⟩)); go_quiet ((first | (go_at_call 201; exact Calls.quiet_same (iEntCap_c _ _)) | (go_at_call 113; exact Calls.quiet_same (in_c _ _ _ _)))); go_wp2_with (first | (go_at_call 136; refine (isUser_c _ _).mono ?_; rintro E w' ⟨rfl, rfl⟩) | (go_at_call 113; refine (in_c _ _ _ _).mono ?_; rintro E w' ⟨rfl, rfl⟩)); go_ret; exact ⟨ret_b (by rw [He.out, ← beqI, c3]; simp), ext_⟩
  have c3' : (rw_ != d.seller) = false := by rw [bne, c3]; rfl
  cases ru
  case true =>
    go_enter Try.func147, Try.ntmps147; go_wp2_with (first | (go_at_call 91; refine (isTicket_c _ _).mono ?_; rintro E w' ⟨rfl, rfl⟩) | (go_at_call 136; refine (isUser_c _ _).mono ?_; rintro E w' ⟨rfl, rfl⟩)); go_quiet ((first | (go_at_call 201; exact Calls.quiet_same (iEntCap_c _ _)) | (go_at_call 113; exact Calls.quiet_same (in_c _ _ _ _)))); go_wp2_with (first | (go_at_call 136; refine (isUser_c _ _).mono ?_; rintro E w' ⟨rfl, rfl⟩) | (go_at_call 113; refine (in_c _ _ _ _).mono ?_; rintro E w' ⟨rfl, rfl⟩)); go_ret; exact ⟨ret_b (by rw [He.out]; simp), ext_⟩
  cases c6 : Sw.inR d.price 1 (Sw.entCap rf)
  case false =>
    go_enter Try.func147, Try.ntmps147; go_wp2_with (first | (go_at_call 91; refine (isTicket_c _ _).mono ?_; rintro E w' ⟨rfl, rfl⟩) | (go_at_call 136; refine (isUser_c _ _).mono ?_; rintro E w' ⟨rfl, rfl⟩)); go_quiet ((first | (go_at_call 201; exact Calls.quiet_same (iEntCap_c _ _)) | (go_at_call 113; exact Calls.quiet_same (in_c _ _ _ _)))); go_wp2_with (first | (go_at_call 136; refine (isUser_c _ _).mono ?_; rintro E w' ⟨rfl, rfl⟩) | (go_at_call 113; refine (in_c _ _ _ _).mono ?_; rintro E w' ⟨rfl, rfl⟩)); go_ret; exact ⟨ret_b (by rw [He.out]; simp [c6]), ext_⟩
  by_cases b0 : d.buyer = 0
  · have b1 : (d.buyer == 0) = true := by simp [b0]
    have B0 := Lib.hid b0; clear b0
    go_enter Try.func147, Try.ntmps147; go_wp2_with (first | (go_at_call 91; refine (isTicket_c _ _).mono ?_; rintro E w' ⟨rfl, rfl⟩) | (go_at_call 136; refine (isUser_c _ _).mono ?_; rintro E w' ⟨rfl, rfl⟩)); go_quiet ((first | (go_at_call 201; exact Calls.quiet_same (iEntCap_c _ _)) | (go_at_call 113; exact Calls.quiet_same (in_c _ _ _ _)))); go_wp2_with (first | (go_at_call 136; refine (isUser_c _ _).mono ?_; rintro E w' ⟨rfl, rfl⟩) | (go_at_call 113; refine (in_c _ _ _ _).mono ?_; rintro E w' ⟨rfl, rfl⟩)); go_ret; exact ⟨ret_b (by rw [He.out, if_pos B0.out, ← beqI, c3, c6, ← beqI]; simp), ext_⟩
  have b1 : (d.buyer == 0) = false := by simp [b0]
  have B0 := Lib.hid b0; clear b0
  cases c7 : Sw.inR d.buyer 1 5
  case false =>
    go_enter Try.func147, Try.ntmps147; go_wp2_with (first | (go_at_call 91; refine (isTicket_c _ _).mono ?_; rintro E w' ⟨rfl, rfl⟩) | (go_at_call 136; refine (isUser_c _ _).mono ?_; rintro E w' ⟨rfl, rfl⟩)); go_quiet ((first | (go_at_call 201; exact Calls.quiet_same (iEntCap_c _ _)) | (go_at_call 113; exact Calls.quiet_same (in_c _ _ _ _)))); go_wp2_with (first | (go_at_call 136; refine (isUser_c _ _).mono ?_; rintro E w' ⟨rfl, rfl⟩) | (go_at_call 113; refine (in_c _ _ _ _).mono ?_; rintro E w' ⟨rfl, rfl⟩)); go_ret; exact ⟨ret_b (by rw [He.out, if_neg B0.out, c7]; simp), ext_⟩
  cases c8 : (d.buyer == d.seller)
  case true =>
    have c8' : (d.buyer != d.seller) = false := by rw [bne, c8]; rfl
    go_enter Try.func147, Try.ntmps147; go_wp2_with (first | (go_at_call 91; refine (isTicket_c _ _).mono ?_; rintro E w' ⟨rfl, rfl⟩) | (go_at_call 136; refine (isUser_c _ _).mono ?_; rintro E w' ⟨rfl, rfl⟩)); go_quiet ((first | (go_at_call 201; exact Calls.quiet_same (iEntCap_c _ _)) | (go_at_call 113; exact Calls.quiet_same (in_c _ _ _ _)))); go_wp2_with (first | (go_at_call 136; refine (isUser_c _ _).mono ?_; rintro E w' ⟨rfl, rfl⟩) | (go_at_call 113; refine (in_c _ _ _ _).mono ?_; rintro E w' ⟨rfl, rfl⟩)); go_ret; exact ⟨ret_b (by rw [He.out, if_neg B0.out, decide_not, ← beqI d.buyer, c8]; simp), ext_⟩
  have c8' : (d.buyer != d.seller) = true := by rw [bne, c8]; rfl
  go_enter Try.func147, Try.ntmps147; go_wp2_with (first | (go_at_call 91; refine (isTicket_c _ _).mono ?_; rintro E w' ⟨rfl, rfl⟩) | (go_at_call 136; refine (isUser_c _ _).mono ?_; rintro E w' ⟨rfl, rfl⟩)); go_quiet ((first | (go_at_call 201; exact Calls.quiet_same (iEntCap_c _ _)) | (go_at_call 113; exact Calls.quiet_same (in_c _ _ _ _)))); go_wp2_with (first | (go_at_call 136; refine (isUser_c _ _).mono ?_; rintro E w' ⟨rfl, rfl⟩) | (go_at_call 113; refine (in_c _ _ _ _).mono ?_; rintro E w' ⟨rfl, rfl⟩)); go_ret; exact ⟨ret_b (by rw [He.out, if_neg B0.out, decide_not, ← beqI d.buyer, c8, ← beqI, c3, c6, c7]; simp), ext_⟩
end Go.Proofs.Ytncoiknpkebgoaa

namespace Go.Proofs.Ytncoiknpkebgoaa
set_option maxRecDepth 100000
set_option linter.unusedSimpArgs false
set_option linter.unusedVariables false
open Go.RowKit Go
set_option maxHeartbeats 400000

section
variable {w : World} {lo c n k : Nat} {A : Option Addr}
theorem at_OE {xs : List Sw.Ent} (h : OwE w lo A c n xs) (hk : k < n) :
    ∃ g x, A = some ⟨g, 0, none⟩ ∧ lo ≤ g ∧ g < w.heap.size ∧ xs[k]? = some x ∧ w.cell? ⟨g, k * 4, none⟩ = some (.int .i64 x.kind) ∧ w.cell? ⟨g, k * 4 + 1, none⟩ = some (.int .i64 x.ticket) ∧
      w.cell? ⟨g, k * 4 + 2, none⟩ = some (.int .i64 x.who) ∧ w.cell? ⟨g, k * 4 + 3, none⟩ = some (.int .i64 x.price) ∧ (∀ i, w.frozen? ⟨g, i, none⟩ = false) := by
  obtain ⟨g, x, h1, h2, h3, h4, h5, h6⟩ := Ow.at_ h (fun _ => rfl) hk
  exact ⟨g, x, h1, h2, h3, h4, by simpa using h5 0 _ (by omega) rfl, h5 1 _ (by omega) rfl, h5 2 _ (by omega) rfl, h5 3 _ (by omega) rfl, h6⟩
theorem at_OD {xs : List Sw.Deal} (h : OwD w lo A c n xs) (hk : k < n) :
    ∃ g x, A = some ⟨g, 0, none⟩ ∧ lo ≤ g ∧ g < w.heap.size ∧ xs[k]? = some x ∧ w.cell? ⟨g, k * 5, none⟩ = some (.int .i64 x.ticket) ∧ w.cell? ⟨g, k * 5 + 1, none⟩ = some (.int .i64 x.seller) ∧
      w.cell? ⟨g, k * 5 + 2, none⟩ = some (.int .i64 x.price) ∧ w.cell? ⟨g, k * 5 + 3, none⟩ = some (.int .i64 x.buyer) ∧ w.cell? ⟨g, k * 5 + 4, none⟩ = some (.int .i64 x.due) ∧ (∀ i, w.frozen? ⟨g, i, none⟩ = false) := by
  obtain ⟨g, x, h1, h2, h3, h4, h5, h6⟩ := Ow.at_ h (fun _ => rfl) hk
  exact ⟨g, x, h1, h2, h3, h4, by simpa using h5 0 _ (by omega) rfl, h5 1 _ (by omega) rfl, h5 2 _ (by omega) rfl, h5 3 _ (by omega) rfl, h5 4 _ (by omega) rfl, h6⟩
theorem at_OQ {xs : List Sw.Req} (h : OwQ w lo A c n xs) (hk : k < n) :
    ∃ g x, A = some ⟨g, 0, none⟩ ∧ lo ≤ g ∧ g < w.heap.size ∧ xs[k]? = some x ∧ w.cell? ⟨g, k * 6, none⟩ = some (.int .i64 x.user) ∧ w.cell? ⟨g, k * 6 + 1, none⟩ = some (.int .i64 x.n) ∧
      w.cell? ⟨g, k * 6 + 2, none⟩ = some (.int .i64 x.kind) ∧ w.cell? ⟨g, k * 6 + 3, none⟩ = some (.int .i64 x.ticket) ∧ w.cell? ⟨g, k * 6 + 4, none⟩ = some (.int .i64 x.who) ∧ w.cell? ⟨g, k * 6 + 5, none⟩ = some (.int .i64 x.price) ∧ (∀ i, w.frozen? ⟨g, i, none⟩ = false) := by
  obtain ⟨g, x, h1, h2, h3, h4, h5, h6⟩ := Ow.at_ h (fun _ => rfl) hk
  exact ⟨g, x, h1, h2, h3, h4, by simpa using h5 0 _ (by omega) rfl, h5 1 _ (by omega) rfl, h5 2 _ (by omega) rfl, h5 3 _ (by omega) rfl, h5 4 _ (by omega) rfl, h5 5 _ (by omega) rfl, h6⟩
theorem at_OGV {xs : List GV} (h : OwGV w lo A c n xs) (hk : k < n) :
    ∃ g x, A = some ⟨g, 0, none⟩ ∧ lo ≤ g ∧ g < w.heap.size ∧ xs[k]? = some x ∧ w.cell? ⟨g, k * 4, none⟩ = some (.int .i64 x.h.size) ∧ w.cell? ⟨g, k * 4 + 1, none⟩ = some (.int .i64 x.h.log) ∧
      w.cell? ⟨g, k * 4 + 2, none⟩ = some (.int .i64 x.h.own) ∧ w.cell? ⟨g, k * 4 + 3, none⟩ = some (.slice x.A x.n x.c) ∧ (∀ i, w.frozen? ⟨g, i, none⟩ = false) := by
  obtain ⟨g, x, h1, h2, h3, h4, h5, h6⟩ := Ow.at_ h (fun _ => rfl) hk
  exact ⟨g, x, h1, h2, h3, h4, by simpa using h5 0 _ (by omega) rfl, h5 1 _ (by omega) rfl, h5 2 _ (by omega) rfl, h5 3 _ (by omega) rfl, h6⟩
theorem at_OXV {xs : List XV} (h : OwXV w lo A c n xs) (hk : k < n) :
    ∃ g x, A = some ⟨g, 0, none⟩ ∧ lo ≤ g ∧ g < w.heap.size ∧ xs[k]? = some x ∧ w.cell? ⟨g, k * 5, none⟩ = some (.int .i64 x.g) ∧ w.cell? ⟨g, k * 5 + 1, none⟩ = some (.int .i64 x.h.size) ∧ w.cell? ⟨g, k * 5 + 2, none⟩ = some (.int .i64 x.h.log) ∧
      w.cell? ⟨g, k * 5 + 3, none⟩ = some (.int .i64 x.h.own) ∧ w.cell? ⟨g, k * 5 + 4, none⟩ = some (.slice x.A x.n x.c) ∧ (∀ i, w.frozen? ⟨g, i, none⟩ = false) := by
  obtain ⟨g, x, h1, h2, h3, h4, h5, h6⟩ := Ow.at_ h (fun _ => rfl) hk
  exact ⟨g, x, h1, h2, h3, h4, by simpa using h5 0 _ (by omega) rfl, h5 1 _ (by omega) rfl, h5 2 _ (by omega) rfl, h5 3 _ (by omega) rfl, h5 4 _ (by omega) rfl, h6⟩
end

theorem toEntEntry_c (t : Sw.Ent) (w : World) : Calls Try.prog 185 #[.agg #[.int .i64 t.kind, .int .i64 t.ticket, .int .i64 t.who, .int .i64 t.price]] w fun E w' => E = .returned (.agg #[.int .i64 t.kind, .int .i64 t.ticket, .int .i64 t.who, .int .i64 t.price]) ∧ Ex w w' := by
  go_enter Try.func185, Try.ntmps185
  go_wp2_with fail
  refine bodyPost_ret (v := .agg #[.int .i64 t.kind, .int .i64 t.ticket, .int .i64 t.who, .int .i64 t.price]) (by simp [results, Try.results185, go_sem, *]) rfl ?_
  exact ⟨rfl, ext_⟩
theorem toMktDeal_c (t : Sw.Deal) (w : World) : Calls Try.prog 186 #[.agg #[.int .i64 t.ticket, .int .i64 t.seller, .int .i64 t.price, .int .i64 t.buyer, .int .i64 t.due]] w fun E w' => E = .returned (.agg #[.int .i64 t.ticket, .int .i64 t.seller, .int .i64 t.price, .int .i64 t.buyer, .int .i64 t.due]) ∧ Ex w w' := by
  go_enter Try.func186, Try.ntmps186
  go_wp2_with fail
  refine bodyPost_ret (v := .agg #[.int .i64 t.ticket, .int .i64 t.seller, .int .i64 t.price, .int .i64 t.buyer, .int .i64 t.due]) (by simp [results, Try.results186, go_sem, *]) rfl ?_
  exact ⟨rfl, ext_⟩
theorem toMktReq_c (t : Sw.Req) (w : World) : Calls Try.prog 202 #[.agg #[.int .i64 t.user, .int .i64 t.n, .int .i64 t.kind, .int .i64 t.ticket, .int .i64 t.who, .int .i64 t.price]] w fun E w' => E = .returned (.agg #[.int .i64 t.user, .int .i64 t.n, .int .i64 t.kind, .int .i64 t.ticket, .int .i64 t.who, .int .i64 t.price]) ∧ Ex w w' := by
  go_enter Try.func202, Try.ntmps202
  go_wp2_with fail
  refine bodyPost_ret (v := .agg #[.int .i64 t.user, .int .i64 t.n, .int .i64 t.kind, .int .i64 t.ticket, .int .i64 t.who, .int .i64 t.price]) (by simp [results, Try.results202, go_sem, *]) rfl ?_
  exact ⟨rfl, ext_⟩
theorem toWldLine_c (t : Sw.Req) (w : World) : Calls Try.prog 157 #[.agg #[.int .i64 t.user, .int .i64 t.n, .int .i64 t.kind, .int .i64 t.ticket, .int .i64 t.who, .int .i64 t.price]] w fun E w' => E = .returned (.agg #[.int .i64 t.user, .int .i64 t.n, .int .i64 t.kind, .int .i64 t.ticket, .int .i64 t.who, .int .i64 t.price]) ∧ Ex w w' := by
  go_enter Try.func157, Try.ntmps157
  go_wp2_with (first | (go_at_call 202; refine (toMktReq_c _ _).mono ?_; rintro E w1 ⟨rfl, hb⟩; have hst := xr hb; (try simp only [zA, zC, zD, zN] at hst); obtain ⟨hc, hf, hz⟩ := hst))
  refine bodyPost_ret (v := .agg #[.int .i64 t.user, .int .i64 t.n, .int .i64 t.kind, .int .i64 t.ticket, .int .i64 t.who, .int .i64 t.price]) (by simp [results, Try.results157, go_sem, *]) rfl ?_
  exact ⟨rfl, ext_⟩

theorem toEntEntryS_c (A : Option Addr) (c n : Nat) (xs : List Sw.Ent) (w : World) (hxs : RE w 0 A c n xs) (hn : n ≤ 1048576) : Calls Try.prog 121 #[.slice A n c] w fun E w' => ∃ g, E = .returned (.slice (some ⟨g, 0, none⟩) n n) ∧ OwE w' w.heap.size (some ⟨g, 0, none⟩) n n xs ∧ w.heap.size ≤ g ∧ g < w'.heap.size ∧ Ex w w' := by

  have hl := Lib.hid hxs.1
  go_enter Try.func121, Try.ntmps121
  go_wp2_with (at_make; apply wpList_mk (lo := w.heap.size) el_E Sw.entZ z_E rfl rfl rfl rfl rfl; omega; (unfold maxLen; omega); exact sz_; intro wm hom hbm hzm; have hst := xr hbm; (try simp only [zA, zC, zD, zN] at hst); obtain ⟨hcm, hfm, hzm2⟩ := hst)
  go_loopw [4] (fun i wr => ∃ k : Nat, k ≤ n ∧ i = .int .i64 k ∧ Ex w wr ∧ OwE wr w.heap.size (some ⟨w.heap.size, 0, none⟩) n n (xs.take k ++ List.replicate (n - k) Sw.entZ)) (fun i _ => n - (intOf i).toNat)
  case atStart => exact ⟨0, Nat.zero_le _, rfl, by assumption, by simpa using hom⟩
  case round =>
    obtain ⟨k, hk, rfl, hb2, hrel⟩ := hrel
    have hst := Ex.rules hb2 rfl
    obtain ⟨hc2, hf2, hz2⟩ := hst
    by_cases hlt : k < n
    · obtain ⟨g, off, y, rfl, hg0, hg, hd, hy, hca0, hca1, hca2, hca3⟩ := at_E hxs hlt
      obtain ⟨g', x', hA', hg0', hg', hx', hcb0, hcb1, hcb2, hcb3, hfr⟩ := at_OE hrel hlt
      cases hA'
      have Ho := Lib.hid hrel
      have Hy := Lib.hid hy
      clear hrel hd hy hx'
      go_wp2_with (go_at_call 185; refine (toEntEntry_c _ _).mono ?_; rintro E w1 ⟨rfl, hb⟩; have hst := xr hb; (try simp only [zA, zC, zD, zN] at hst); obtain ⟨hc, hf, hz⟩ := hst)
      go_roundw
      case rel =>
        refine ⟨k + 1, by omega, by go_num, (by exact ext_), ?_⟩
        have key := fun W (h : OwE W w.heap.size (some ⟨w.heap.size, 0, none⟩) n n (xs.take k ++ List.replicate (n - k) Sw.entZ)) => Ow.put h (fun _ => rfl) y rfl hlt
        rw [take_set_step hl.out hlt Hy.out] at key
        exact key _ (Ow.keep Ho.out (by (exact kf_)))
      case measure => simp [intOf]; omega
    · have Hrel := Lib.hid hrel; clear hrel
      go_wp2_with fail
      go_ret
      have := Hrel.out
      obtain rfl : k = n := by omega
      rw [Nat.sub_self, List.take_of_length_le (by have := hl.out; omega)] at this
      exact ⟨_, rfl, by simpa using this, Nat.le_refl _, (this.blk rfl).2, (by exact ext_)⟩

theorem toMktDealS_c (A : Option Addr) (c n : Nat) (xs : List Sw.Deal) (w : World) (hxs : RDl w 0 A c n xs) (hn : n ≤ 1048576) : Calls Try.prog 122 #[.slice A n c] w fun E w' => ∃ g, E = .returned (.slice (some ⟨g, 0, none⟩) n n) ∧ OwD w' w.heap.size (some ⟨g, 0, none⟩) n n xs ∧ w.heap.size ≤ g ∧ g < w'.heap.size ∧ Ex w w' := by

  have hl := Lib.hid hxs.1
  go_enter Try.func122, Try.ntmps122
  go_wp2_with (at_make; apply wpList_mk (lo := w.heap.size) el_D Sw.dealZ z_D rfl rfl rfl rfl rfl; omega; (unfold maxLen; omega); exact sz_; intro wm hom hbm hzm; have hst := xr hbm; (try simp only [zA, zC, zD, zN] at hst); obtain ⟨hcm, hfm, hzm2⟩ := hst)
  go_loopw [4] (fun i wr => ∃ k : Nat, k ≤ n ∧ i = .int .i64 k ∧ Ex w wr ∧ OwD wr w.heap.size (some ⟨w.heap.size, 0, none⟩) n n (xs.take k ++ List.replicate (n - k) Sw.dealZ)) (fun i _ => n - (intOf i).toNat)
  case atStart => exact ⟨0, Nat.zero_le _, rfl, by assumption, by simpa using hom⟩
  case round =>
    obtain ⟨k, hk, rfl, hb2, hrel⟩ := hrel
    have hst := Ex.rules hb2 rfl
    obtain ⟨hc2, hf2, hz2⟩ := hst
    by_cases hlt : k < n
    · obtain ⟨g, off, y, rfl, hg0, hg, hd, hy, hca0, hca1, hca2, hca3, hca4⟩ := at_D hxs hlt
      obtain ⟨g', x', hA', hg0', hg', hx', hcb0, hcb1, hcb2, hcb3, hcb4, hfr⟩ := at_OD hrel hlt
      cases hA'
      have Ho := Lib.hid hrel
      have Hy := Lib.hid hy
      clear hrel hd hy hx'
      go_wp2_with (go_at_call 186; refine (toMktDeal_c _ _).mono ?_; rintro E w1 ⟨rfl, hb⟩; have hst := xr hb; (try simp only [zA, zC, zD, zN] at hst); obtain ⟨hc, hf, hz⟩ := hst)
      go_roundw
      case rel =>
        refine ⟨k + 1, by omega, by go_num, (by exact ext_), ?_⟩
        have key := fun W (h : OwD W w.heap.size (some ⟨w.heap.size, 0, none⟩) n n (xs.take k ++ List.replicate (n - k) Sw.dealZ)) => Ow.put h (fun _ => rfl) y rfl hlt
        rw [take_set_step hl.out hlt Hy.out] at key
        exact key _ (Ow.keep Ho.out (by (exact kf_)))
      case measure => simp [intOf]; omega
    · have Hrel := Lib.hid hrel; clear hrel
      go_wp2_with fail
      go_ret
      have := Hrel.out
      obtain rfl : k = n := by omega
      rw [Nat.sub_self, List.take_of_length_le (by have := hl.out; omega)] at this
      exact ⟨_, rfl, by simpa using this, Nat.le_refl _, (this.blk rfl).2, (by exact ext_)⟩

theorem toWldLineS_c (A : Option Addr) (c n : Nat) (xs : List Sw.Req) (w : World) (hxs : RQ w 0 A c n xs) (hn : n ≤ 1048576) : Calls Try.prog 75 #[.slice A n c] w fun E w' => ∃ g, E = .returned (.slice (some ⟨g, 0, none⟩) n n) ∧ OwQ w' w.heap.size (some ⟨g, 0, none⟩) n n xs ∧ w.heap.size ≤ g ∧ g < w'.heap.size ∧ Ex w w' := by

  have hl := Lib.hid hxs.1
  go_enter Try.func75, Try.ntmps75
  go_wp2_with (at_make; apply wpList_mk (lo := w.heap.size) el_Q Sw.reqZ z_Q rfl rfl rfl rfl rfl; omega; (unfold maxLen; omega); exact sz_; intro wm hom hbm hzm; have hst := xr hbm; (try simp only [zA, zC, zD, zN] at hst); obtain ⟨hcm, hfm, hzm2⟩ := hst)
  go_loopw [4] (fun i wr => ∃ k : Nat, k ≤ n ∧ i = .int .i64 k ∧ Ex w wr ∧ OwQ wr w.heap.size (some ⟨w.heap.size, 0, none⟩) n n (xs.take k ++ List.replicate (n - k) Sw.reqZ)) (fun i _ => n - (intOf i).toNat)
  case atStart => exact ⟨0, Nat.zero_le _, rfl, by assumption, by simpa using hom⟩
  case round =>
    obtain ⟨k, hk, rfl, hb2, hrel⟩ := hrel
    have hst := Ex.rules hb2 rfl
    obtain ⟨hc2, hf2, hz2⟩ := hst
    by_cases hlt : k < n
    · obtain ⟨g, off, y, rfl, hg0, hg, hd, hy, hca0, hca1, hca2, hca3, hca4, hca5⟩ := at_Q hxs hlt
      obtain ⟨g', x', hA', hg0', hg', hx', hcb0, hcb1, hcb2, hcb3, hcb4, hcb5, hfr⟩ := at_OQ hrel hlt
      cases hA'
      have Ho := Lib.hid hrel
      have Hy := Lib.hid hy
      clear hrel hd hy hx'
      go_wp2_with (go_at_call 157; refine (toWldLine_c _ _).mono ?_; rintro E w1 ⟨rfl, hb⟩; have hst := xr hb; (try simp only [zA, zC, zD, zN] at hst); obtain ⟨hc, hf, hz⟩ := hst)
      go_roundw
      case rel =>
        refine ⟨k + 1, by omega, by go_num, (by exact ext_), ?_⟩
        have key := fun W (h : OwQ W w.heap.size (some ⟨w.heap.size, 0, none⟩) n n (xs.take k ++ List.replicate (n - k) Sw.reqZ)) => Ow.put h (fun _ => rfl) y rfl hlt
        rw [take_set_step hl.out hlt Hy.out] at key
        exact key _ (Ow.keep Ho.out (by (exact kf_)))
      case measure => simp [intOf]; omega
    · have Hrel := Lib.hid hrel; clear hrel
      go_wp2_with fail
      go_ret
      have := Hrel.out
      obtain rfl : k = n := by omega
      rw [Nat.sub_self, List.take_of_length_le (by have := hl.out; omega)] at this
      exact ⟨_, rfl, by simpa using this, Nat.le_refl _, (this.blk rfl).2, (by exact ext_)⟩

end Go.Proofs.Ytncoiknpkebgoaa

namespace Go.Proofs.Ytncoiknpkebgoaa
set_option maxRecDepth 100000
set_option linter.unusedSimpArgs false
set_option linter.unusedVariables false
open Go.RowKit Go
set_option maxHeartbeats 400000

theorem toWldMsg_c (q : Int) (t : Sw.Head) (A : Option Addr) (c n : Nat) (xs : List Int) (w : World) (hxs : RI w 0 A c n xs) (hn : n ≤ 4194304) : Calls Try.prog 158 #[.agg #[.int .i64 q, .int .i64 t.size, .int .i64 t.log, .int .i64 t.own, .slice A n c]] w fun E w' => ∃ g, E = .returned (.agg #[.int .i64 q, .int .i64 t.size, .int .i64 t.log, .int .i64 t.own, .slice (some ⟨g, 0, none⟩) n n]) ∧ OwI w' w.heap.size (some ⟨g, 0, none⟩) n n xs ∧ w.heap.size ≤ g ∧ g < w'.heap.size ∧ Ex w w' := by
  go_enter Try.func158, Try.ntmps158
  go_wp2_with (first | (go_at_call 135; refine (toHedHead_c _ _).mono ?_; rintro E w1 ⟨rfl, hb⟩; have hst := xr hb; (try simp only [zA, zC, zD, zN] at hst); obtain ⟨hc, hf, hz⟩ := hst) | (go_at_call 54; apply Calls.mono; apply toIntS_c; ((first | (apply Rs.at0; assumption) | (apply Ow.rs0; assumption)); exact kf_); (first | assumption | omega); rintro E w1 ⟨g, rfl, hr, hge, hlt, hb⟩; (try simp only [zA, zC, zD, zN] at hge); (try simp only [zA, zC, zD, zN] at hlt); have hst := xr hb; (try simp only [zA, zC, zD, zN] at hst); obtain ⟨hc, hf, hz⟩ := hst))
  refine bodyPost_ret (v := .agg #[.int .i64 q, .int .i64 t.size, .int .i64 t.log, .int .i64 t.own, .slice (some ⟨g, 0, none⟩) n n]) (by simp [results, Try.results158, go_sem, *]) rfl ?_
  exact ⟨g, rfl, (hr.keep (by (exact kf_))).less (by exact sz_), (by exact sz_), (by exact sz_), ext_⟩

/-- So many gates have been made: their own slices have marks of their own. -/
def GatesTo (τ : Nat → Nat) (w : World) (lo g0 k n : Nat) (gs : List Sw.Gate) : Prop :=
  ∃ vs : List GV, OwGV w lo (some ⟨g0, 0, none⟩) n n vs ∧ τ g0 = 8 ∧ ∀ (j : Nat) (v : GV) (g : Sw.Gate), j < k → vs[j]? = some v → gs[j]? = some g → v.h = g.head ∧ OwTI τ (fdS j) w lo v.A v.c v.n g.done
def MsgsTo (τ : Nat → Nat) (w : World) (lo g0 k n : Nat) (xs : List Sw.Msg) : Prop :=
  ∃ vs : List XV, OwXV w lo (some ⟨g0, 0, none⟩) n n vs ∧ τ g0 = 9 ∧ ∀ (j : Nat) (v : XV) (x : Sw.Msg), j < k → vs[j]? = some v → xs[j]? = some x → v.g = x.gate ∧ v.h = x.head ∧ OwTI τ (fpS j) w lo v.A v.c v.n x.proof
theorem GatesTo.start {w : World} {lo g0 n : Nat} {gs : List Sw.Gate} {vs : List GV} (h : OwGV w lo (some ⟨g0, 0, none⟩) n n vs) : GatesTo (fun _ => 8) w lo g0 0 n gs := ⟨vs, h, rfl, fun j v g hj => by omega⟩
theorem MsgsTo.start {w : World} {lo g0 n : Nat} {gs : List Sw.Msg} {vs : List XV} (h : OwXV w lo (some ⟨g0, 0, none⟩) n n vs) : MsgsTo (fun _ => 9) w lo g0 0 n gs := ⟨vs, h, rfl, fun j v g hj => by omega⟩
/-- The element's cells, before. -/
theorem GatesTo.at_ {τ : Nat → Nat} {w : World} {lo g0 k n j : Nat} {gs : List Sw.Gate} (h : GatesTo τ w lo g0 k n gs) (hj : j < n) :
    ∃ x : GV, lo ≤ g0 ∧ g0 < w.heap.size ∧ w.cell? ⟨g0, j * 4, none⟩ = some (.int .i64 x.h.size) ∧ w.cell? ⟨g0, j * 4 + 1, none⟩ = some (.int .i64 x.h.log) ∧
      w.cell? ⟨g0, j * 4 + 2, none⟩ = some (.int .i64 x.h.own) ∧ w.cell? ⟨g0, j * 4 + 3, none⟩ = some (.slice x.A x.n x.c) ∧ (∀ i, w.frozen? ⟨g0, i, none⟩ = false) := by
  obtain ⟨vs, h1, _, _⟩ := h
  obtain ⟨g, x, hA, h3, h4, _, h5, h6, h7, h8, h9⟩ := at_OGV h1 hj
  cases hA
  exact ⟨x, h3, h4, h5, h6, h7, h8, h9⟩
theorem MsgsTo.at_ {τ : Nat → Nat} {w : World} {lo g0 k n j : Nat} {gs : List Sw.Msg} (h : MsgsTo τ w lo g0 k n gs) (hj : j < n) :
    ∃ x : XV, lo ≤ g0 ∧ g0 < w.heap.size ∧ w.cell? ⟨g0, j * 5, none⟩ = some (.int .i64 x.g) ∧ w.cell? ⟨g0, j * 5 + 1, none⟩ = some (.int .i64 x.h.size) ∧ w.cell? ⟨g0, j * 5 + 2, none⟩ = some (.int .i64 x.h.log) ∧
      w.cell? ⟨g0, j * 5 + 3, none⟩ = some (.int .i64 x.h.own) ∧ w.cell? ⟨g0, j * 5 + 4, none⟩ = some (.slice x.A x.n x.c) ∧ (∀ i, w.frozen? ⟨g0, i, none⟩ = false) := by
  obtain ⟨vs, h1, _, _⟩ := h
  obtain ⟨g, x, hA, h3, h4, _, h5, h6, h7, h8, h9, h10⟩ := at_OXV h1 hj
  cases hA
  exact ⟨x, h3, h4, h5, h6, h7, h8, h9, h10⟩
theorem set_cells_heap {g b : Nat} (h : b ≠ g) : ∀ (vs : List Value) (w : World) (i : Nat), (setCells w g i vs).heap[b]? = w.heap[b]?
  | [], _, _ => rfl
  | v :: vs, w, i => by rw [setCells, set_cells_heap h vs]; exact Below.heap_setCell _ _ _ _ h
theorem set_cells_size {g : Nat} : ∀ (vs : List Value) (w : World) (i : Nat), (setCells w g i vs).heap.size = w.heap.size
  | [], _, _ => rfl
  | v :: vs, w, i => by rw [setCells, set_cells_size vs]; simp
/-- One gate more. -/
theorem GatesTo.step {τ : Nat → Nat} {w w1 : World} {lo g0 k n g1 m : Nat} {gs : List Sw.Gate} {y : Sw.Gate} (h : GatesTo τ w lo g0 k n gs) (hk : k < n) (hy : gs[k]? = some y) (hb : Ex w w1)
    (ho : OwI w1 w.heap.size (some ⟨g1, 0, none⟩) m m y.done) (hlo : lo ≤ w.heap.size) :
    GatesTo (glue τ w.heap.size (fun _ => fdS k)) (setCells w1 g0 (k * 4) (GV.enc ⟨y.head, some ⟨g1, 0, none⟩, m, m⟩)) lo g0 (k + 1) n gs := by
  obtain ⟨vs, h1, h2, h3⟩ := h
  have hg0 := (h1.blk rfl)
  dsimp only at hg0
  have h1' : OwGV w1 lo (some ⟨g0, 0, none⟩) n n vs := h1.keep (KF.ex hb (KF.refl _ _))
  refine ⟨_, Ow.put h1' (fun _ => rfl) ⟨y.head, some ⟨g1, 0, none⟩, m, m⟩ rfl hk, ?_, ?_⟩
  · unfold glue; rw [if_pos hg0.2]; exact h2
  · intro j v g hj hv hg
    rw [List.getElem?_set] at hv
    by_cases hjk : k = j
    · subst hjk
      rw [if_pos rfl, if_pos (by rw [← h1.1]; exact hk)] at hv
      cases hv
      rw [hy] at hg
      cases hg
      refine ⟨rfl, ⟨?_, ?_⟩⟩
      · refine (ho.less hlo).keep_ fun a ha => ?_
        cases ha
        have := (ho.blk rfl).1
        exact set_cells_heap (show g1 ≠ g0 by dsimp only at this; omega) _ _ _
      · intro a ha
        cases ha
        have := (ho.blk rfl).1
        unfold glue; dsimp only at this ⊢; rw [if_neg (by omega)]
    · rw [if_neg hjk] at hv
      obtain ⟨e, hr⟩ := h3 j v g (by omega) hv hg
      refine ⟨e, ⟨hr.ow.keep_ fun a ha => ?_, fun a ha => ?_⟩⟩
      · have hlt := (hr.ow.blk ha).2
        rw [set_cells_heap, hb.block _ hlt (fun h => h)]
        intro e
        have := hr.tag a ha
        rw [e, h2] at this
        unfold fdS at this; omega
      · unfold glue; rw [if_pos (hr.ow.blk ha).2]; exact hr.tag a ha
theorem MsgsTo.step {τ : Nat → Nat} {w w1 : World} {lo g0 k n g1 m : Nat} {gs : List Sw.Msg} {y : Sw.Msg} (h : MsgsTo τ w lo g0 k n gs) (hk : k < n) (hy : gs[k]? = some y) (hb : Ex w w1)
    (ho : OwI w1 w.heap.size (some ⟨g1, 0, none⟩) m m y.proof) (hlo : lo ≤ w.heap.size) :
    MsgsTo (glue τ w.heap.size (fun _ => fpS k)) (setCells w1 g0 (k * 5) (XV.enc ⟨y.gate, y.head, some ⟨g1, 0, none⟩, m, m⟩)) lo g0 (k + 1) n gs := by
  obtain ⟨vs, h1, h2, h3⟩ := h
  have hg0 := (h1.blk rfl)
  dsimp only at hg0
  have h1' : OwXV w1 lo (some ⟨g0, 0, none⟩) n n vs := h1.keep (KF.ex hb (KF.refl _ _))
  refine ⟨_, Ow.put h1' (fun _ => rfl) ⟨y.gate, y.head, some ⟨g1, 0, none⟩, m, m⟩ rfl hk, ?_, ?_⟩
  · unfold glue; rw [if_pos hg0.2]; exact h2
  · intro j v g hj hv hg
    rw [List.getElem?_set] at hv
    by_cases hjk : k = j
    · subst hjk
      rw [if_pos rfl, if_pos (by rw [← h1.1]; exact hk)] at hv
      cases hv
      rw [hy] at hg
      cases hg
      refine ⟨rfl, rfl, ⟨?_, ?_⟩⟩
      · refine (ho.less hlo).keep_ fun a ha => ?_
        cases ha
        have := (ho.blk rfl).1
        exact set_cells_heap (show g1 ≠ g0 by dsimp only at this; omega) _ _ _
      · intro a ha
        cases ha
        have := (ho.blk rfl).1
        unfold glue; dsimp only at this ⊢; rw [if_neg (by omega)]
    · rw [if_neg hjk] at hv
      obtain ⟨e1, e, hr⟩ := h3 j v g (by omega) hv hg
      refine ⟨e1, e, ⟨hr.ow.keep_ fun a ha => ?_, fun a ha => ?_⟩⟩
      · have hlt := (hr.ow.blk ha).2
        rw [set_cells_heap, hb.block _ hlt (fun h => h)]
        intro e
        have := hr.tag a ha
        rw [e, h2] at this
        unfold fpS at this; omega
      · unfold glue; rw [if_pos (hr.ow.blk ha).2]; exact hr.tag a ha
theorem GatesTo.all {τ : Nat → Nat} {w : World} {lo g0 n : Nat} {gs : List Sw.Gate} (h : GatesTo τ w lo g0 n n gs) (hn : n = gs.length) : OwG fdS τ w lo (some ⟨g0, 0, none⟩) n n gs := by
  obtain ⟨vs, h1, h2, h3⟩ := h
  exact ⟨vs, ⟨h1, fun a ha => by cases ha; exact h2⟩, hn, fun k v g hv hg => h3 k v g (by have := (List.getElem?_eq_some_iff.1 hg).1; omega) hv hg⟩
theorem MsgsTo.all {τ : Nat → Nat} {w : World} {lo g0 n : Nat} {gs : List Sw.Msg} (h : MsgsTo τ w lo g0 n n gs) (hn : n = gs.length) : OwX fpS τ w lo (some ⟨g0, 0, none⟩) n n gs := by
  obtain ⟨vs, h1, h2, h3⟩ := h
  exact ⟨vs, ⟨h1, fun a ha => by cases ha; exact h2⟩, hn, fun k v g hv hg => h3 k v g (by have := (List.getElem?_eq_some_iff.1 hg).1; omega) hv hg⟩

theorem toGatGateS_c (A : Option Addr) (c n : Nat) (xs : List Sw.Gate) (w : World) (hxs : RG w 0 A c n xs) (hn : n + dsz xs ≤ 1048576) : Calls Try.prog 76 #[.slice A n c] w fun E w' => ∃ g τ, E = .returned (.slice (some ⟨g, 0, none⟩) n n) ∧ OwG fdS τ w' w.heap.size (some ⟨g, 0, none⟩) n n xs ∧ Ex w w' := by
  have hl := Lib.hid hxs.len.1
  have hn1 : n ≤ 1048576 := by omega
  go_enter Try.func76, Try.ntmps76
  go_wp2_with (at_make; apply wpList_mk (lo := w.heap.size) el_G GV.zero z_G rfl rfl rfl rfl rfl; omega; (unfold maxLen; omega); exact sz_; intro wm hom hbm hzm; have hst := xr hbm; (try simp only [zA, zC, zD, zN] at hst); obtain ⟨hcm, hfm, hzm2⟩ := hst)
  go_loopw [4] (fun i wr => ∃ (k : Nat) (τ : Nat → Nat), k ≤ n ∧ i = .int .i64 k ∧ Ex w wr ∧ GatesTo τ wr w.heap.size w.heap.size k n xs ∧ dsz (xs.drop k) ≤ 1048576) (fun i _ => n - (intOf i).toNat)
  case atStart => exact ⟨0, _, Nat.zero_le _, rfl, by assumption, GatesTo.start hom, by simp; omega⟩
  case round =>
    obtain ⟨k, τ, hk, rfl, hb2, hrel, hds⟩ := hrel
    have hst := Ex.rules hb2 rfl
    obtain ⟨hc2, hf2, hz2⟩ := hst
    by_cases hlt : k < n
    · obtain ⟨g, off, y, B, d, m, rfl, hg0, hg, hd, hy, q0, q1, q2, q3, hr⟩ := at_G hxs hlt
      rw [hd, dsz_cons] at hds
      have hm : m ≤ 1048576 := by have := hr.1; omega
      obtain ⟨x', hg0', hg', p0, p1, p2, p3, hfr⟩ := hrel.at_ hlt
      have Ho := Lib.hid hrel
      have Hy := Lib.hid hy
      have hds2 : dsz (xs.drop (k + 1)) ≤ 1048576 := by omega
      clear hrel hd hy hds
      go_wp2_with (go_at_call 52; apply Calls.mono; apply toGatGate_c; ((first | (apply Rs.at0; assumption) | (apply Ow.rs0; assumption)); exact kf_); (first | assumption | omega); rintro E w1 ⟨g1, rfl, ho1, hge1, hlt1, hb⟩; (try simp only [zA, zC, zD, zN] at hge1); (try simp only [zA, zC, zD, zN] at hlt1); have hst := xr hb; (try simp only [zA, zC, zD, zN] at hst); obtain ⟨hc, hf, hz⟩ := hst)
      go_roundw
      case rel => exact ⟨k + 1, _, by omega, by go_num, ext_, Ho.out.step hlt Hy.out (by assumption) ho1 (by omega), hds2⟩
      case measure => simp [intOf]; omega
    · have Hrel := Lib.hid hrel; clear hrel
      go_wp2_with fail
      go_ret
      have := Hrel.out
      obtain rfl : k = n := by omega
      exact ⟨_, τ, rfl, this.all hl.out, ext_⟩
theorem toWldMsgS_c (A : Option Addr) (c n : Nat) (xs : List Sw.Msg) (w : World) (hxs : RX w 0 A c n xs) (hn : n + psz xs ≤ 1048576) : Calls Try.prog 77 #[.slice A n c] w fun E w' => ∃ g τ, E = .returned (.slice (some ⟨g, 0, none⟩) n n) ∧ OwX fpS τ w' w.heap.size (some ⟨g, 0, none⟩) n n xs ∧ Ex w w' := by
  have hl := Lib.hid hxs.len.1
  have hn1 : n ≤ 1048576 := by omega
  go_enter Try.func77, Try.ntmps77
  go_wp2_with (at_make; apply wpList_mk (lo := w.heap.size) el_X XV.zero z_X rfl rfl rfl rfl rfl; omega; (unfold maxLen; omega); exact sz_; intro wm hom hbm hzm; have hst := xr hbm; (try simp only [zA, zC, zD, zN] at hst); obtain ⟨hcm, hfm, hzm2⟩ := hst)
  go_loopw [4] (fun i wr => ∃ (k : Nat) (τ : Nat → Nat), k ≤ n ∧ i = .int .i64 k ∧ Ex w wr ∧ MsgsTo τ wr w.heap.size w.heap.size k n xs ∧ psz (xs.drop k) ≤ 1048576) (fun i _ => n - (intOf i).toNat)
  case atStart => exact ⟨0, _, Nat.zero_le _, rfl, by assumption, MsgsTo.start hom, by simp; omega⟩
  case round =>
    obtain ⟨k, τ, hk, rfl, hb2, hrel, hds⟩ := hrel
    have hst := Ex.rules hb2 rfl
    obtain ⟨hc2, hf2, hz2⟩ := hst
    by_cases hlt : k < n
    · obtain ⟨g, off, y, B, d, m, rfl, hg0, hg, hd, hy, q0, q1, q2, q3, q4, hr⟩ := at_X hxs hlt
      rw [hd, psz_cons] at hds
      have hm : m ≤ 1048576 := by have := hr.1; omega
      obtain ⟨x', hg0', hg', p0, p1, p2, p3, p4, hfr⟩ := hrel.at_ hlt
      have Ho := Lib.hid hrel
      have Hy := Lib.hid hy
      have hds2 : psz (xs.drop (k + 1)) ≤ 1048576 := by omega
      clear hrel hd hy hds
      go_wp2_with (go_at_call 158; apply Calls.mono; apply toWldMsg_c; ((first | (apply Rs.at0; assumption) | (apply Ow.rs0; assumption)); exact kf_); (first | assumption | omega); rintro E w1 ⟨g1, rfl, ho1, hge1, hlt1, hb⟩; (try simp only [zA, zC, zD, zN] at hge1); (try simp only [zA, zC, zD, zN] at hlt1); have hst := xr hb; (try simp only [zA, zC, zD, zN] at hst); obtain ⟨hc, hf, hz⟩ := hst)
      go_roundw
      case rel => exact ⟨k + 1, _, by omega, by go_num, ext_, Ho.out.step hlt Hy.out (by assumption) ho1 (by omega), hds2⟩
      case measure => simp [intOf]; omega
    · have Hrel := Lib.hid hrel; clear hrel
      go_wp2_with fail
      go_ret
      have := Hrel.out
      obtain rfl : k = n := by omega
      exact ⟨_, τ, rfl, this.all hl.out, ext_⟩
end Go.Proofs.Ytncoiknpkebgoaa

namespace Go.Proofs.Ytncoiknpkebgoaa
set_option maxRecDepth 100000
set_option linter.unusedSimpArgs false
set_option linter.unusedVariables false
open Go.RowKit Go
set_option maxHeartbeats 400000

def tau5 (a b c d : Nat) : Nat → Nat := fun x => if x = a then 1 else if x = b then 2 else if x = c then 3 else if x = d then 4 else 5
section
variable {a b c d e : Nat}
theorem tau5_1 : tau5 a b c d a = 1 := if_pos rfl
theorem tau5_2 (h : a < b) : tau5 a b c d b = 2 := by unfold tau5; rw [if_neg (by omega), if_pos rfl]
theorem tau5_3 (h : a < c) (h2 : b < c) : tau5 a b c d c = 3 := by unfold tau5; rw [if_neg (by omega), if_neg (by omega), if_pos rfl]
theorem tau5_4 (h : a < d) (h2 : b < d) (h3 : c < d) : tau5 a b c d d = 4 := by unfold tau5; rw [if_neg (by omega), if_neg (by omega), if_neg (by omega), if_pos rfl]
theorem tau5_5 (h : a < e) (h2 : b < e) (h3 : c < e) (h4 : d < e) : tau5 a b c d e = 5 := by unfold tau5; rw [if_neg (by omega), if_neg (by omega), if_neg (by omega), if_neg (by omega)]
end
section
variable {α : Type} {enc : α → List Value} {sz : Nat} {e : TypeId} {fd fp τ τ' : Nat → Nat} {t : Nat} {w w' : World} {lo lo' c n k : Nat} {A : Option Addr} {xs : List α}
theorem OwT.one {g : Nat} (h : Ow enc sz e w lo (some ⟨g, 0, none⟩) c n xs) (ht : τ g = t) : OwT enc sz e τ t w lo (some ⟨g, 0, none⟩) c n xs := ⟨h, fun a ha => by cases ha; exact ht⟩
theorem OwT.keepF (h : OwT enc sz e τ t w lo A c n xs) (hk : KF lo w w') : OwT enc sz e τ t w' lo A c n xs := h.keep (.of hk)
theorem OwM.keepF {aL : Option Addr} {aLc aLn : Nat} {aP : Option Addr} {aPc aPn : Nat} {aD : Option Addr} {aDc aDn : Nat} {aN : Option Addr} {aNc aNn : Nat} {aS : Option Addr} {aSc aSn : Nat} {m : Sw.Mkt} (h : OwM τ w lo aL aLc aLn aP aPc aPn aD aDc aDn aN aNc aNn aS aSc aSn m) (hk : KF lo w w') : OwM τ w' lo aL aLc aLn aP aPc aPn aD aDc aDn aN aNc aNn aS aSc aSn m := h.keep fun _ _ _ => .of hk
theorem OwG.keepF {gs : List Sw.Gate} (h : OwG fd τ w lo A c n gs) (hk : KF lo w w') : OwG fd τ w' lo A c n gs := h.keep (.of hk) fun _ => .of hk
theorem OwX.keepF {gs : List Sw.Msg} (h : OwX fp τ w lo A c n gs) (hk : KF lo w w') : OwX fp τ w' lo A c n gs := h.keep (.of hk) fun _ => .of hk
theorem OwW.keepF {aF : Option Addr} {aFc aFn : Nat} {aL : Option Addr} {aLc aLn : Nat} {aP : Option Addr} {aPc aPn : Nat} {aD : Option Addr} {aDc aDn : Nat} {aN : Option Addr} {aNc aNn : Nat} {aS : Option Addr} {aSc aSn : Nat} {aI : Option Addr} {aIc aIn : Nat} {aG : Option Addr} {aGc aGn : Nat} {aB : Option Addr} {aBc aBn : Nat} {x : Sw.World} (h : OwW fd fp τ w lo aF aFc aFn aL aLc aLn aP aPc aPn aD aDc aDn aN aNc aNn aS aSc aSn aI aIc aIn aG aGc aGn aB aBc aBn x) (hk : KF lo w w') : OwW fd fp τ w' lo aF aFc aFn aL aLc aLn aP aPc aPn aD aDc aDn aN aNc aNn aS aSc aSn aI aIc aIn aG aGc aGn aB aBc aBn x := ⟨h.1.keepF hk, h.2.keepF hk, h.3.keepF hk, h.4.keepF hk, h.5.keepF hk⟩
theorem OwM.glueL {aL : Option Addr} {aLc aLn : Nat} {aP : Option Addr} {aPc aPn : Nat} {aD : Option Addr} {aDc aDn : Nat} {aN : Option Addr} {aNc aNn : Nat} {aS : Option Addr} {aSc aSn : Nat} {m : Sw.Mkt} (h : OwM τ w lo aL aLc aLn aP aPc aPn aD aDc aDn aN aNc aNn aS aSc aSn m) (hk : w.heap.size ≤ k) : OwM (glue τ k τ') w lo aL aLc aLn aP aPc aPn aD aDc aDn aN aNc aNn aS aSc aSn m := h.retag fun b hb => if_pos (by omega)
theorem OwG.glueL {gs : List Sw.Gate} (h : OwG fd τ w lo A c n gs) (hk : w.heap.size ≤ k) : OwG fd (glue τ k τ') w lo A c n gs := h.retag fun b hb => if_pos (by omega)
theorem OwX.glueL {gs : List Sw.Msg} (h : OwX fp τ w lo A c n gs) (hk : w.heap.size ≤ k) : OwX fp (glue τ k τ') w lo A c n gs := h.retag fun b hb => if_pos (by omega)
theorem OwT.rs0 (h : OwT enc sz e τ t w lo A c n xs) (hk : KF lo w w') : Rs enc sz w' 0 A c n xs := h.rs.at0 hk
theorem OwM.rm0 {aL : Option Addr} {aLc aLn : Nat} {aP : Option Addr} {aPc aPn : Nat} {aD : Option Addr} {aDc aDn : Nat} {aN : Option Addr} {aNc aNn : Nat} {aS : Option Addr} {aSc aSn : Nat} {m : Sw.Mkt} (h : OwM τ w lo aL aLc aLn aP aPc aPn aD aDc aDn aN aNc aNn aS aSc aSn m) (hk : KF lo w w') : RM w' 0 aL aLc aLn aP aPc aPn aD aDc aDn aN aNc aNn aS aSc aSn m := h.rm.at0 hk
theorem OwW.rw0 {aF : Option Addr} {aFc aFn : Nat} {aL : Option Addr} {aLc aLn : Nat} {aP : Option Addr} {aPc aPn : Nat} {aD : Option Addr} {aDc aDn : Nat} {aN : Option Addr} {aNc aNn : Nat} {aS : Option Addr} {aSc aSn : Nat} {aI : Option Addr} {aIc aIn : Nat} {aG : Option Addr} {aGc aGn : Nat} {aB : Option Addr} {aBc aBn : Nat} {x : Sw.World} (h : OwW fd fp τ w lo aF aFc aFn aL aLc aLn aP aPc aPn aD aDc aDn aN aNc aNn aS aSc aSn aI aIc aIn aG aGc aGn aB aBc aBn x) (hk : KF lo w w') : RW w' 0 aF aFc aFn aL aLc aLn aP aPc aPn aD aDc aDn aN aNc aNn aS aSc aSn aI aIc aIn aG aGc aGn aB aBc aBn x := h.rw_.at0 hk
theorem OwG.rg0 {gs : List Sw.Gate} (h : OwG fd τ w lo A c n gs) (hk : KF lo w w') : RG w' 0 A c n gs := h.rg.at0 hk
theorem OwX.rx0 {gs : List Sw.Msg} (h : OwX fp τ w lo A c n gs) (hk : KF lo w w') : RX w' 0 A c n gs := h.rx.at0 hk
/-- Five pieces that were made one behind the other are a world. -/
theorem OwW.build {w1 w2 w3 w4 w5 W : World} {lo lo1 lo2 lo3 lo4 lo5 : Nat} {aF : Option Addr} {aFc aFn : Nat} {aL : Option Addr} {aLc aLn : Nat} {aP : Option Addr} {aPc aPn : Nat} {aD : Option Addr} {aDc aDn : Nat} {aN : Option Addr} {aNc aNn : Nat} {aS : Option Addr} {aSc aSn : Nat} {aI : Option Addr} {aIc aIn : Nat} {aG : Option Addr} {aGc aGn : Nat} {aB : Option Addr} {aBc aBn : Nat} {x : Sw.World} {τM τG τX : Nat → Nat}
    (h1 : OwI w1 lo1 aF aFc aFn x.first) (h2 : OwM τM w2 lo2 aL aLc aLn aP aPc aPn aD aDc aDn aN aNc aNn aS aSc aSn x.market) (h3 : OwQ w3 lo3 aI aIc aIn x.lines) (h4 : OwG fd τG w4 lo4 aG aGc aGn x.gates) (h5 : OwX fp τX w5 lo5 aB aBc aBn x.bag)
    (l2 : w1.heap.size ≤ lo2) (l3 : w2.heap.size ≤ lo3) (l4 : w3.heap.size ≤ lo4) (l5 : w4.heap.size ≤ lo5) (b2 : lo2 ≤ w2.heap.size) (b3 : lo3 ≤ w3.heap.size) (b4 : lo4 ≤ w4.heap.size) (hl : lo ≤ lo1) (b1 : lo1 ≤ w1.heap.size)
    (k1 : KF lo1 w1 W) (k2 : KF lo2 w2 W) (k3 : KF lo3 w3 W) (k4 : KF lo4 w4 W) (k5 : KF lo5 w5 W) :
    OwW fd fp (glue (fun _ => 6) w1.heap.size (glue τM w2.heap.size (glue (fun _ => 7) w3.heap.size (glue τG w4.heap.size τX)))) W lo aF aFc aFn aL aLc aLn aP aPc aPn aD aDc aDn aN aNc aNn aS aSc aSn aI aIc aIn aG aGc aGn aB aBc aBn x := by
  have p1 : OwTI (fun _ => 6) 6 w1 lo1 aF aFc aFn x.first := ⟨h1, fun _ _ => rfl⟩
  have p3 : OwTQ (fun _ => 7) 7 w3 lo3 aI aIc aIn x.lines := ⟨h3, fun _ _ => rfl⟩
  refine ⟨((p1.glueL (Nat.le_refl _)).keepF k1).less hl, ?_, ?_, ?_, ?_⟩
  · exact (((h2.glueL (Nat.le_refl _)).glueR l2).keepF k2).less (by omega)
  · exact ((((p3.glueL (Nat.le_refl _)).glueR l3).glueR (by omega)).keepF k3).less (by omega)
  · exact (((((h4.glueL (Nat.le_refl _)).glueR l4).glueR (by omega)).glueR (by omega)).keepF k4).less (by omega)
  · exact (((((h5.glueR l5).glueR (by omega)).glueR (by omega)).glueR (by omega)).keepF k5).less (by omega)
end

theorem toMktHouse_c (aL : Option Addr) (aLc aLn : Nat) (aP : Option Addr) (aPc aPn : Nat) (aD : Option Addr) (aDc aDn : Nat) (aN : Option Addr) (aNc aNn : Nat) (aS : Option Addr) (aSc aSn : Nat) (m : Sw.Mkt) (w : World) (hm : RM w 0 aL aLc aLn aP aPc aPn aD aDc aDn aN aNc aNn aS aSc aSn m) (hn : aLn + aPn + aDn + aNn + aSn ≤ 1048576) : Calls Try.prog 45 #[.agg #[.slice aL aLn aLc, .slice aP aPn aPc, .slice aD aDn aDc, .int .i64 m.clock, .slice aN aNn aNc, .slice aS aSn aSc]] w fun E w' => ∃ bL bLc bLn bP bPc bPn bD bDc bDn bN bNc bNn bS bSc bSn τ, E = .returned (.agg #[.slice bL bLn bLc, .slice bP bPn bPc, .slice bD bDn bDc, .int .i64 m.clock, .slice bN bNn bNc, .slice bS bSn bSc]) ∧ OwM τ w' w.heap.size bL bLc bLn bP bPc bPn bD bDc bDn bN bNc bNn bS bSc bSn m ∧ Ex w w' := by
  obtain ⟨m1, m2, m3, m4, m5⟩ := hm
  go_enter Try.func45, Try.ntmps45
  go_wp2_with (first | (go_at_call 121; apply Calls.mono; apply toEntEntryS_c; (apply Rs.at0 m1; (exact kf_)); (first | assumption | omega); rintro E w1 ⟨gL, rfl, hoL, hgeL, hltL, hb⟩; (try simp only [zA, zC, zD, zN] at hgeL); (try simp only [zA, zC, zD, zN] at hltL); have hst := xr hb; (try simp only [zA, zC, zD, zN] at hst); obtain ⟨hc, hf, hz⟩ := hst) | (go_at_call 54; apply Calls.mono; apply toIntS_c; (apply Rs.at0 m2; (exact kf_)); (first | assumption | omega); rintro E w1 ⟨gP, rfl, hoP, hgeP, hltP, hb⟩; (try simp only [zA, zC, zD, zN] at hgeP); (try simp only [zA, zC, zD, zN] at hltP); have hst := xr hb; (try simp only [zA, zC, zD, zN] at hst); obtain ⟨hc, hf, hz⟩ := hst) | (go_at_call 122; apply Calls.mono; apply toMktDealS_c; (apply Rs.at0 m3; (exact kf_)); (first | assumption | omega); rintro E w1 ⟨gD, rfl, hoD, hgeD, hltD, hb⟩; (try simp only [zA, zC, zD, zN] at hgeD); (try simp only [zA, zC, zD, zN] at hltD); have hst := xr hb; (try simp only [zA, zC, zD, zN] at hst); obtain ⟨hc, hf, hz⟩ := hst) | (go_at_call 54; apply Calls.mono; apply toIntS_c; (apply Rs.at0 m4; (exact kf_)); (first | assumption | omega); rintro E w1 ⟨gN, rfl, hoN, hgeN, hltN, hb⟩; (try simp only [zA, zC, zD, zN] at hgeN); (try simp only [zA, zC, zD, zN] at hltN); have hst := xr hb; (try simp only [zA, zC, zD, zN] at hst); obtain ⟨hc, hf, hz⟩ := hst) | (go_at_call 54; apply Calls.mono; apply toIntS_c; (apply Rs.at0 m5; (exact kf_)); (first | assumption | omega); rintro E w1 ⟨gS, rfl, hoS, hgeS, hltS, hb⟩; (try simp only [zA, zC, zD, zN] at hgeS); (try simp only [zA, zC, zD, zN] at hltS); have hst := xr hb; (try simp only [zA, zC, zD, zN] at hst); obtain ⟨hc, hf, hz⟩ := hst))
  refine bodyPost_ret (v := .agg #[.slice (some ⟨gL, 0, none⟩) aLn aLn, .slice (some ⟨gP, 0, none⟩) aPn aPn, .slice (some ⟨gD, 0, none⟩) aDn aDn, .int .i64 m.clock, .slice (some ⟨gN, 0, none⟩) aNn aNn, .slice (some ⟨gS, 0, none⟩) aSn aSn]) (by simp [results, Try.results45, go_sem, *]) rfl ?_
  refine ⟨_, _, _, _, _, _, _, _, _, _, _, _, _, _, _, tau5 gL gP gD gN, rfl, ⟨?_, ?_, ?_, ?_, ?_⟩, ext_⟩
  · exact .one ((hoL.keep (by (exact kf_))).less (by exact sz_)) tau5_1
  · exact .one ((hoP.keep (by (exact kf_))).less (by exact sz_)) (tau5_2 (by omega))
  · exact .one ((hoD.keep (by (exact kf_))).less (by exact sz_)) (tau5_3 (by omega) (by omega))
  · exact .one ((hoN.keep (by (exact kf_))).less (by exact sz_)) (tau5_4 (by omega) (by omega) (by omega))
  · exact .one ((hoS.keep (by (exact kf_))).less (by exact sz_)) (tau5_5 (by omega) (by omega) (by omega) (by omega))

theorem toWldWorld_c (aF : Option Addr) (aFc aFn : Nat) (aL : Option Addr) (aLc aLn : Nat) (aP : Option Addr) (aPc aPn : Nat) (aD : Option Addr) (aDc aDn : Nat) (aN : Option Addr) (aNc aNn : Nat) (aS : Option Addr) (aSc aSn : Nat) (aI : Option Addr) (aIc aIn : Nat) (aG : Option Addr) (aGc aGn : Nat) (aB : Option Addr) (aBc aBn : Nat) (x : Sw.World) (w : World) (hx : RW w 0 aF aFc aFn aL aLc aLn aP aPc aPn aD aDc aDn aN aNc aNn aS aSc aSn aI aIc aIn aG aGc aGn aB aBc aBn x) (hn : aFn + (aLn + aPn + aDn + aNn + aSn) + aIn + (aGn + dsz x.gates) + (aBn + psz x.bag) ≤ 1048576) : Calls Try.prog 15 #[.agg #[.slice aF aFn aFc, .slice aL aLn aLc, .slice aP aPn aPc, .slice aD aDn aDc, .int .i64 x.market.clock, .slice aN aNn aNc, .slice aS aSn aSc, .slice aI aIn aIc, .slice aG aGn aGc, .slice aB aBn aBc]] w fun E w' => ∃ bF bFc bFn bL bLc bLn bP bPc bPn bD bDc bDn bN bNc bNn bS bSc bSn bI bIc bIn bG bGc bGn bB bBc bBn τ, E = .returned (.agg #[.slice bF bFn bFc, .slice bL bLn bLc, .slice bP bPn bPc, .slice bD bDn bDc, .int .i64 x.market.clock, .slice bN bNn bNc, .slice bS bSn bSc, .slice bI bIn bIc, .slice bG bGn bGc, .slice bB bBn bBc]) ∧ OwW fdS fpS τ w' w.heap.size bF bFc bFn bL bLc bLn bP bPc bPn bD bDc bDn bN bNc bNn bS bSc bSn bI bIc bIn bG bGc bGn bB bBc bBn x ∧ Ex w w' := by
  obtain ⟨x1, x2, x3, x4, x5⟩ := hx
  go_enter Try.func15, Try.ntmps15
  go_wp2_with (first | (go_at_call 54; apply Calls.mono; apply toIntS_c; (apply Rs.at0 x1; (exact kf_)); omega; rintro E w1 ⟨gF, rfl, hoF, hgeF, hltF, hb1⟩; have hst := Ex.rules hb1 rfl; (try simp only [World.size_alloc, World.size_setCell, World.size_drew] at hst hgeF hltF); obtain ⟨hc1, hf1, hz1⟩ := hst) | (go_at_call 45; apply Calls.mono; apply toMktHouse_c; (apply RM.at0 x2; (exact kf_)); omega; rintro E w2 ⟨bL, bLc, bLn, bP, bPc, bPn, bD, bDc, bDn, bN, bNc, bNn, bS, bSc, bSn, τM, rfl, hoM, hb2⟩; have hst := Ex.rules hb2 rfl; (try simp only [World.size_alloc, World.size_setCell, World.size_drew] at hst); obtain ⟨hc2, hf2, hz2⟩ := hst) | (go_at_call 75; apply Calls.mono; apply toWldLineS_c; (apply Rs.at0 x3; (exact kf_)); omega; rintro E w3 ⟨gI, rfl, hoI, hgeI, hltI, hb3⟩; have hst := Ex.rules hb3 rfl; (try simp only [World.size_alloc, World.size_setCell, World.size_drew] at hst hgeI hltI); obtain ⟨hc3, hf3, hz3⟩ := hst) | (go_at_call 76; apply Calls.mono; apply toGatGateS_c; (apply RG.at0 x4; (exact kf_)); omega; rintro E w4 ⟨gG, τG, rfl, hoG, hb4⟩; have hst := Ex.rules hb4 rfl; (try simp only [World.size_alloc, World.size_setCell, World.size_drew] at hst); obtain ⟨hc4, hf4, hz4⟩ := hst) | (go_at_call 77; apply Calls.mono; apply toWldMsgS_c; (apply RX.at0 x5; (exact kf_)); omega; rintro E w5 ⟨gB, τX, rfl, hoX, hb5⟩; have hst := Ex.rules hb5 rfl; (try simp only [World.size_alloc, World.size_setCell, World.size_drew] at hst); obtain ⟨hc5, hf5, hz5⟩ := hst))
  refine bodyPost_ret (v := .agg #[.slice (some ⟨gF, 0, none⟩) aFn aFn, .slice bL bLn bLc, .slice bP bPn bPc, .slice bD bDn bDc, .int .i64 x.market.clock, .slice bN bNn bNc, .slice bS bSn bSc, .slice (some ⟨gI, 0, none⟩) aIn aIn, .slice (some ⟨gG, 0, none⟩) aGn aGn, .slice (some ⟨gB, 0, none⟩) aBn aBn]) (by simp [results, Try.results15, go_sem, *]) rfl ?_
  refine ⟨_, _, _, _, _, _, _, _, _, _, _, _, _, _, _, _, _, _, _, _, _, _, _, _, _, _, _, glue (fun _ => 6) w1.heap.size (glue τM w2.heap.size (glue (fun _ => 7) w3.heap.size (glue τG w4.heap.size τX))), rfl, ?_, ext_⟩
  refine OwW.build hoF hoM hoI hoG hoX (by exact sz_) (by exact sz_) (by exact sz_) (by exact sz_) hb2.size hb3.size hb4.size (by exact sz_) hb1.size ?_ ?_ ?_ ?_ ?_
  all_goals (exact kf_)
end Go.Proofs.Ytncoiknpkebgoaa

namespace Go.Proofs.Ytncoiknpkebgoaa
set_option maxRecDepth 100000
set_option linter.unusedSimpArgs false
set_option linter.unusedVariables false
open Go
section
variable {P : Program} {ops : Array Oper} {Q : Exit → Act → World → Prop} {md : Region.Mode} {S : World → Prop}
/-- An operation that is not wanted. -/
theorem regU (i d : Nat) {oi : Oper} {fuel : Nat} {listed : Array Bool} {a : Act} {w : World} (hi : ops[i]? = some oi) (hd : oi.dst = some d)
    (hs : Region.noSelect ops = true) (hf : Region.free md ops listed i = true) (hr : (Region.ready md ops listed).contains i = true)
    (hQ : ∀ c a w, Q (.panic c) (a.put (some d) undef) w → Q (.panic c) a w) (hw : Region.wanted oi (yielded ops a.tmps) = false) (hS : S w)
    (h : wpAnyH P md ops Q S fuel (listed.setIfInBounds i true) (a.put (some d) undef) w) : wpAnyH P md ops Q S (fuel + 1) listed a w :=
  wpAnyH_take (v := undef) hi hs hf hr (by rw [hd]; exact hQ) (Or.inr ⟨hw, rfl⟩) hS (by rw [hd]; exact h)
/-- One that is wanted, and yields v wherever S holds. -/
theorem regT (i d : Nat) {v : Value} {oi : Oper} {fuel : Nat} {listed : Array Bool} {a : Act} {w : World} (hi : ops[i]? = some oi) (hd : oi.dst = some d)
    (hs : Region.noSelect ops = true) (hf : Region.free md ops listed i = true) (hr : (Region.ready md ops listed).contains i = true)
    (hQ : ∀ c a w, Q (.panic c) (a.put (some d) v) w → Q (.panic c) a w) (hw : Region.wanted oi (yielded ops a.tmps) = true) (hy : ∀ w, S w → (execOp a.eval oi).run P w = .ok (.value v) w) (hS : S w)
    (h : wpAnyH P md ops Q S fuel (listed.setIfInBounds i true) (a.put (some d) v) w) : wpAnyH P md ops Q S (fuel + 1) listed a w :=
  wpAnyH_take (v := v) hi hs hf hr (by rw [hd]; exact hQ) (Or.inl ⟨hw, hy⟩) hS (by rw [hd]; exact h)
/-- A region walked by what holds behind so many more operations, in whatever order they come up. -/
theorem wpAnyH_inv {Inv : Nat → Array Bool → Act → World → Prop} {k : Nat}
    (h0 : ∀ l a w, Inv 0 l a w → wpAnyH P md ops Q S k l a w)
    (hd : ∀ n l a w, Inv (n + 1) l a w → Region.ready md ops l ≠ [])
    (hs : ∀ n l a w, Inv (n + 1) l a w → ∀ i ∈ Region.ready md ops l, wpOp P ops Q i (fun a' w' => S w' ∧ Inv n (l.setIfInBounds i true) a' w') a w) :
    ∀ n l a w, Inv n l a w → wpAnyH P md ops Q S (n + k) l a w
  | 0, l, a, w, h => by rw [Nat.zero_add]; exact h0 l a w h
  | n + 1, l, a, w, h => by
    rw [show n + 1 + k = n + k + 1 by omega]
    exact ⟨fun he => absurd he (hd n l a w h), fun i hi => wpOp_mono (fun a' w' h' => ⟨h'.1, wpAnyH_inv h0 hd hs n _ _ _ h'.2⟩) (hs n l a w h i hi)⟩
end
end Go.Proofs.Ytncoiknpkebgoaa

