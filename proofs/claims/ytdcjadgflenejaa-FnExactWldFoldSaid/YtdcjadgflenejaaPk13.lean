/-
  Texts joined: LawEq2, LawEq3, Mon1, ImpD.
-/
import Derived.Test.YtdcjadgflenejaaPk12
namespace Go.Proofs.Ytdcjadgflenejaa
set_option maxRecDepth 100000
set_option linter.unusedSimpArgs false
set_option linter.unusedVariables false
open Go.RowKit Go
set_option maxHeartbeats 400000

/-! ### sizes: what fits, and what does not -/
theorem szLine_y (A : Option Addr) (c n : Nat) (xs : List Sw.Req) (l : Int) (w : World) (hxs : RQ w 0 A c n xs) (h1 : l ≤ 1048576) (hle : (n : Int) ≤ l) : Calls Try.prog 4 #[.slice A n c, .int .i64 l] w fun E w' => E = .returned (.int .i64 (l - n)) ∧ w = w' :=
  (szWldLineS_c A c n xs l w hxs (by omega) h1).mono fun E w' ⟨h, k⟩ => ⟨by rw [h, if_neg (by omega)], k⟩
theorem szLine_n (A : Option Addr) (c n : Nat) (xs : List Sw.Req) (l : Int) (w : World) (hxs : RQ w 0 A c n xs) (h0 : 0 ≤ l) (h1 : l ≤ 1048576) (hle : l < n) : Calls Try.prog 4 #[.slice A n c, .int .i64 l] w fun E w' => E = .returned (.int .i64 (-1)) ∧ w = w' :=
  (szWldLineS_c A c n xs l w hxs (by omega) h1).mono fun E w' ⟨h, k⟩ => ⟨by rw [h, if_pos (by omega)], k⟩

/-- How many numbers gates, messages hold in their own slices. -/
def dsz (gs : List Sw.Gate) : Nat := (gs.map (·.done.length)).sum
def psz (xs : List Sw.Msg) : Nat := (xs.map (·.proof.length)).sum
theorem dsz_cons (g : Sw.Gate) (gs : List Sw.Gate) : dsz (g :: gs) = g.done.length + dsz gs := by simp [dsz]
theorem psz_cons (g : Sw.Msg) (gs : List Sw.Msg) : psz (g :: gs) = g.proof.length + psz gs := by simp [psz]
end Go.Proofs.Ytdcjadgflenejaa

namespace Go.Proofs.Ytdcjadgflenejaa
set_option maxRecDepth 100000
set_option linter.unusedSimpArgs false
set_option linter.unusedVariables false
open Go.RowKit Go
set_option maxHeartbeats 400000

theorem mkt_ext {a b : Sw.Mkt} : a = b ↔ a.log = b.log ∧ a.purses = b.purses ∧ a.deals = b.deals ∧ a.clock = b.clock ∧ a.nums = b.nums ∧ a.said = b.said := by cases a; cases b; simp
theorem gate_ext {a b : Sw.Gate} : a = b ↔ a.head = b.head ∧ a.done = b.done := by cases a; cases b; simp
theorem msg_ext {a b : Sw.Msg} : a = b ↔ a.gate = b.gate ∧ a.head = b.head ∧ a.proof = b.proof := by cases a; cases b; simp
theorem world_ext {a b : Sw.World} : a = b ↔ a.first = b.first ∧ a.market = b.market ∧ a.lines = b.lines ∧ a.gates = b.gates ∧ a.bag = b.bag := by cases a; cases b; simp
theorem gate_dec (y z : Sw.Gate) : decide (y = z) = (decide (y.head = z.head) && decide (y.done = z.done)) := by rw [Bool.eq_iff_iff]; simp [gate_ext]
theorem msg_dec (y z : Sw.Msg) : decide (y = z) = (decide (y.gate = z.gate) && (decide (y.head = z.head) && decide (y.proof = z.proof))) := by rw [Bool.eq_iff_iff]; simp [msg_ext]

theorem eqMktHouse_c (aL : Option Addr) (aLc aLn : Nat) (aP : Option Addr) (aPc aPn : Nat) (aD : Option Addr) (aDc aDn : Nat) (aN : Option Addr) (aNc aNn : Nat) (aS : Option Addr) (aSc aSn : Nat) (x : Sw.Mkt) (bL : Option Addr) (bLc bLn : Nat) (bP : Option Addr) (bPc bPn : Nat) (bD : Option Addr) (bDc bDn : Nat) (bN : Option Addr) (bNc bNn : Nat) (bS : Option Addr) (bSc bSn : Nat) (y : Sw.Mkt) (w : World) (hx : RM w 0 aL aLc aLn aP aPc aPn aD aDc aDn aN aNc aNn aS aSc aSn x) (hy : RM w 0 bL bLc bLn bP bPc bPn bD bDc bDn bN bNc bNn bS bSc bSn y) : Calls Try.prog 9 #[.agg #[.slice aL aLn aLc, .slice aP aPn aPc, .slice aD aDn aDc, .int .i64 x.clock, .slice aN aNn aNc, .slice aS aSn aSc], .agg #[.slice bL bLn bLc, .slice bP bPn bPc, .slice bD bDn bDc, .int .i64 y.clock, .slice bN bNn bNc, .slice bS bSn bSc]] w fun E w' => E = .returned (.bool (decide (x = y))) ∧ Ex w w' := by
  obtain ⟨x1, x2, x3, x4, x5⟩ := hx
  obtain ⟨y1, y2, y3, y4, y5⟩ := hy
  go_enter Try.func9, Try.ntmps9
  go_wp2_with (first | (go_at_call 27; apply Calls.mono; apply eqEntEntryS_c; ((first | (apply Rs.at0; assumption) | (apply Ow.rs0; assumption)); exact kf_); ((first | (apply Rs.at0; assumption) | (apply Ow.rs0; assumption)); exact kf_); rintro E w1 ⟨rfl, hb⟩; have hst := xr hb; (try simp only [zA, zC, zD, zN] at hst); obtain ⟨hc, hf, hz⟩ := hst) | (go_at_call 10; apply Calls.mono; apply eqIntS_c; ((first | (apply Rs.at0; assumption) | (apply Ow.rs0; assumption)); exact kf_); ((first | (apply Rs.at0; assumption) | (apply Ow.rs0; assumption)); exact kf_); rintro E w1 ⟨rfl, hb⟩; have hst := xr hb; (try simp only [zA, zC, zD, zN] at hst); obtain ⟨hc, hf, hz⟩ := hst) | (go_at_call 28; apply Calls.mono; apply eqMktDealS_c; ((first | (apply Rs.at0; assumption) | (apply Ow.rs0; assumption)); exact kf_); ((first | (apply Rs.at0; assumption) | (apply Ow.rs0; assumption)); exact kf_); rintro E w1 ⟨rfl, hb⟩; have hst := xr hb; (try simp only [zA, zC, zD, zN] at hst); obtain ⟨hc, hf, hz⟩ := hst))
  all_goals (go_ret; refine ⟨ret_b ?_, ext_⟩; go_tidy; simp only [mkt_ext])
  all_goals (first | (simp [*]; done) | (simp_all; done))
end Go.Proofs.Ytdcjadgflenejaa

namespace Go.Proofs.Ytdcjadgflenejaa
set_option maxRecDepth 100000
set_option linter.unusedSimpArgs false
set_option linter.unusedVariables false
open Go.RowKit Go
set_option maxHeartbeats 400000

theorem sumFrom_cons (s x : Int) (xs : List Int) : Sw.sumFrom s (x :: xs) = Sw.sumFrom (wrap64 (s + x)) xs := rfl
theorem heldFrom_cons (s : Int) (d : Sw.Deal) (ds : List Sw.Deal) : Sw.heldFrom s (d :: ds) = Sw.heldFrom (Sw.heldStep s d) ds := rfl
theorem heldStep_y {s : Int} {d : Sw.Deal} (h : 0 < d.buyer) : Sw.heldStep s d = wrap64 (s + d.price) := by simp [Sw.heldStep, Sw.held, h]
theorem heldStep_n {s : Int} {d : Sw.Deal} (h : ¬ 0 < d.buyer) : Sw.heldStep s d = s := by simp [Sw.heldStep, Sw.held, h]

theorem sMonSum_c (A : Option Addr) (c n : Nat) (xs : List Int) (w : World) (hxs : RI w 0 A c n xs) : Calls Try.prog 36 #[.slice A n c] w fun E w' => E = .returned (.int .i64 (Sw.monSum xs)) ∧ w = w' := by
  have hl := Lib.hid hxs.1
  have hbig := Rs.big hxs
  go_enter Try.func36, Try.ntmps36
  go_wp2
  go_loop [3, 4] (fun v i => ∃ (k : Nat) (s : Int), k ≤ n ∧ i = .int .i64 k ∧ v = .int .i64 s ∧ Sw.monSum xs = Sw.sumFrom s (xs.drop k)) (fun _ i => n - (intOf i).toNat)
  case atStart => exact ⟨0, 0, Nat.zero_le _, rfl, rfl, rfl⟩
  case round =>
    obtain ⟨k, s, hk, rfl, rfl, hrel⟩ := hrel
    by_cases hlt : k < n
    · obtain ⟨g, off, y, rfl, hg0, hg, hd, hy, hc⟩ := at_I hxs hlt
      rw [hd, sumFrom_cons] at hrel
      have Hrel := Lib.hid hrel; clear hrel hd hy
      go_wp2
      go_round
      case rel => exact ⟨k + 1, _, by omega, by go_num, rfl, Hrel.out⟩
      case measure => simp [intOf]; omega
    · have Hrel := Lib.hid hrel; clear hrel
      go_wp2
      go_ret
      refine ⟨ret_i ?_, rfl⟩
      rw [Hrel.out, List.drop_of_length_le (by have := hl.out; omega)]
      rfl
theorem iMonSum_c (A : Option Addr) (c n : Nat) (xs : List Int) (w : World) (hxs : RI w 0 A c n xs) : Calls Try.prog 43 #[.slice A n c] w fun E w' => E = .returned (.int .i64 (Sw.monSum xs)) ∧ w = w' := by
  have hl := Lib.hid hxs.1
  have hbig := Rs.big hxs
  go_enter Try.func43, Try.ntmps43
  go_wp2
  go_loop [3, 8] (fun v i => ∃ (k : Nat) (s : Int), k ≤ n ∧ i = .int .i64 k ∧ v = .int .i64 s ∧ Sw.monSum xs = Sw.sumFrom s (xs.drop k)) (fun _ i => n - (intOf i).toNat)
  case atStart => exact ⟨0, 0, Nat.zero_le _, rfl, rfl, rfl⟩
  case round =>
    obtain ⟨k, s, hk, rfl, rfl, hrel⟩ := hrel
    by_cases hlt : k < n
    · obtain ⟨g, off, y, rfl, hg0, hg, hd, hy, hc⟩ := at_I hxs hlt
      rw [hd, sumFrom_cons] at hrel
      have Hrel := Lib.hid hrel; clear hrel hd hy
      go_wp2
      go_round
      case rel => exact ⟨k + 1, _, by omega, by go_num, rfl, Hrel.out⟩
      case measure => simp [intOf]; omega
    · have Hrel := Lib.hid hrel; clear hrel
      go_wp2
      go_ret
      refine ⟨ret_i ?_, rfl⟩
      rw [Hrel.out, List.drop_of_length_le (by have := hl.out; omega)]
      rfl

theorem iHeld_c (d : Sw.Deal) (w : World) : Calls Try.prog 45 #[.agg #[.int .i64 d.ticket, .int .i64 d.seller, .int .i64 d.price, .int .i64 d.buyer, .int .i64 d.due]] w fun E w' => E = .returned (.bool (Sw.held d)) ∧ Ex w w' := by
  go_enter Try.func45, Try.ntmps45
  go_wp2_with fail
  go_ret
  exact ⟨rfl, ext_⟩

theorem sMktHeld_c (aL : Option Addr) (aLc aLn : Nat) (aP : Option Addr) (aPc aPn : Nat) (aD : Option Addr) (aDc aDn : Nat) (aN : Option Addr) (aNc aNn : Nat) (aS : Option Addr) (aSc aSn : Nat) (m : Sw.Mkt) (w : World) (hm : RM w 0 aL aLc aLn aP aPc aPn aD aDc aDn aN aNc aNn aS aSc aSn m) : Calls Try.prog 58 #[.agg #[.slice aL aLn aLc, .slice aP aPn aPc, .slice aD aDn aDc, .int .i64 m.clock, .slice aN aNn aNc, .slice aS aSn aSc]] w fun E w' => E = .returned (.int .i64 (Sw.mktHeld m)) ∧ Ex w w' := by
  have hxs := hm.deals
  clear hm
  have hl := Lib.hid hxs.1
  have hbig := Rs.big hxs
  go_enter Try.func58, Try.ntmps58
  go_wp2_with fail
  go_loop [3, 4] (fun v i => ∃ (k : Nat) (s : Int), k ≤ aDn ∧ i = .int .i64 k ∧ v = .int .i64 s ∧ Sw.mktHeld m = Sw.heldFrom s (m.deals.drop k)) (fun _ i => aDn - (intOf i).toNat)
  case atStart => exact ⟨0, 0, Nat.zero_le _, rfl, rfl, rfl⟩
  case round =>
    obtain ⟨k, s, hk, rfl, rfl, hrel⟩ := hrel
    by_cases hlt : k < aDn
    · obtain ⟨g, off, y, rfl, hg0, hg, hd, hy, q0, q1, q2, q3, q4⟩ := at_D hxs hlt
      rw [hd, heldFrom_cons] at hrel
      have Hrel := Lib.hid hrel; clear hrel hd hy
      by_cases hb : 0 < y.buyer
      · go_wp2
        go_round
        case rel => exact ⟨k + 1, _, by omega, by go_num, rfl, by rw [Hrel.out, heldStep_y hb]⟩
        case measure => simp [intOf]; omega
      · go_wp2
        go_round
        case rel => exact ⟨k + 1, _, by omega, by go_num, rfl, by rw [Hrel.out, heldStep_n hb]⟩
        case measure => simp [intOf]; omega
    · have Hrel := Lib.hid hrel; clear hrel
      go_wp2
      go_ret
      refine ⟨ret_i ?_, ext_⟩
      rw [Hrel.out, List.drop_of_length_le (by have := hl.out; omega)]
      rfl
end Go.Proofs.Ytdcjadgflenejaa

namespace Go.Proofs.Ytdcjadgflenejaa
set_option maxRecDepth 100000
set_option linter.unusedSimpArgs false
set_option linter.unusedVariables false
open Go.RowKit Go
set_option maxHeartbeats 1000000

theorem iMonTurn_c (A : Option Addr) (c n : Nat) (xs : List Int) (who v : Int) (w : World) (hxs : RI w 0 A c n xs) (hn : n ≤ 4194304) : Calls Try.prog 46 #[.slice A n c, .int .i64 who, .int .i64 v] w fun E w' => ∃ A' c', E = .returned (.tuple #[.slice A' n c', .bool (Sw.turnMay xs who v)]) ∧ OwI w' w.heap.size A' c' n (Sw.monTurn xs who v) ∧ Ex w w' := by
  cases g1 : Sw.monOk xs
  case false =>
    have e : Sw.turnMay xs who v = false := by simp [Sw.turnMay, g1]
    rw [e, monTurn_n e]; clear e
    go_enter Try.func46, Try.ntmps46
    go_wp2_with (first | (go_at_call 44; apply Calls.mono; apply iCloneInts_c; ((first | (apply Rs.at0; assumption) | (apply Ow.rs0; assumption) | (apply OwT.rs0; assumption)); exact kf_); (first | assumption | omega); rintro E w1 ⟨A1, c1, rfl, ho1, hb⟩; have hst := xr hb; (try simp only [zA, zC, zD, zN] at hst); obtain ⟨hc, hf, hz⟩ := hst) | (go_at_call 42; apply Calls.mono; apply iMonOk_c; ((first | (apply Rs.at0; assumption) | (apply Ow.rs0; assumption) | (apply OwT.rs0; assumption)); exact kf_); rintro E w1 ⟨rfl, hb⟩; have hst := xr hb; (try simp only [zA, zC, zD, zN] at hst); obtain ⟨hc, hf, hz⟩ := hst))
    go_ret2
    exact ⟨A1, c1, rfl, (ho1.keep (by (exact kf_))).less (by exact sz_), ext_⟩
  have h5 := monOk_len g1
  have hn5 : n = 5 := by rw [hxs.1, h5]
  subst hn5
  clear h5
  cases g2 : Sw.inR who 1 5
  case false =>
    have e : Sw.turnMay xs who v = false := by simp [Sw.turnMay, g2]
    rw [e, monTurn_n e]; clear e
    go_enter Try.func46, Try.ntmps46
    go_wp2_with (first | (go_at_call 44; apply Calls.mono; apply iCloneInts_c; ((first | (apply Rs.at0; assumption) | (apply Ow.rs0; assumption) | (apply OwT.rs0; assumption)); exact kf_); (first | assumption | omega); rintro E w1 ⟨A1, c1, rfl, ho1, hb⟩; have hst := xr hb; (try simp only [zA, zC, zD, zN] at hst); obtain ⟨hc, hf, hz⟩ := hst) | (go_at_call 42; apply Calls.mono; apply iMonOk_c; ((first | (apply Rs.at0; assumption) | (apply Ow.rs0; assumption) | (apply OwT.rs0; assumption)); exact kf_); rintro E w1 ⟨rfl, hb⟩; have hst := xr hb; (try simp only [zA, zC, zD, zN] at hst); obtain ⟨hc, hf, hz⟩ := hst) | (go_at_call 47; refine (isUser_c _ _).mono ?_; rintro E w' ⟨rfl, rfl⟩) | (go_at_call 48; refine (in_c _ _ _ _).mono ?_; rintro E w' ⟨rfl, rfl⟩))
    go_ret2
    exact ⟨A1, c1, rfl, (ho1.keep (by (exact kf_))).less (by exact sz_), ext_⟩
  cases g3 : Sw.inR v (-100000) 100000
  case false =>
    have e : Sw.turnMay xs who v = false := by simp [Sw.turnMay, g3]
    rw [e, monTurn_n e]; clear e
    go_enter Try.func46, Try.ntmps46
    go_wp2_with (first | (go_at_call 44; apply Calls.mono; apply iCloneInts_c; ((first | (apply Rs.at0; assumption) | (apply Ow.rs0; assumption) | (apply OwT.rs0; assumption)); exact kf_); (first | assumption | omega); rintro E w1 ⟨A1, c1, rfl, ho1, hb⟩; have hst := xr hb; (try simp only [zA, zC, zD, zN] at hst); obtain ⟨hc, hf, hz⟩ := hst) | (go_at_call 42; apply Calls.mono; apply iMonOk_c; ((first | (apply Rs.at0; assumption) | (apply Ow.rs0; assumption) | (apply OwT.rs0; assumption)); exact kf_); rintro E w1 ⟨rfl, hb⟩; have hst := xr hb; (try simp only [zA, zC, zD, zN] at hst); obtain ⟨hc, hf, hz⟩ := hst) | (go_at_call 47; refine (isUser_c _ _).mono ?_; rintro E w' ⟨rfl, rfl⟩) | (go_at_call 48; refine (in_c _ _ _ _).mono ?_; rintro E w' ⟨rfl, rfl⟩))
    go_ret2
    exact ⟨A1, c1, rfl, (ho1.keep (by (exact kf_))).less (by exact sz_), ext_⟩
  have hw := Sw.inR_iff.1 g2
  have hv := Sw.inR_iff.1 g3
  obtain ⟨k, rfl⟩ : ∃ k : Nat, who = k + 1 := ⟨(who - 1).toNat, by omega⟩
  have hk : k < 5 := by omega
  obtain ⟨g, off, y, rfl, hg0, hg, hd, hy, hc0⟩ := at_I hxs hk
  have hyb : 0 ≤ y ∧ y ≤ 100000 := (Sw.monOk_iff.1 g1).2 y (List.mem_of_getElem? hy)
  have hpu := purse_at hy
  have Hpu := Lib.hid hpu
  have Hy := Lib.hid hy
  clear hd hy hpu
  obtain ⟨y0, y1⟩ := hyb
  obtain ⟨v0, v1⟩ := hv
  clear hw
  have t2 : IntKind.i64.wrap ((k : Int) + 1 - 1) = k := by rw [IntWalk.i64_in _ (by omega)]; omega
  cases g4 : Sw.inR (y + v) 0 100000
  case false =>
    have e : Sw.turnMay xs (k + 1) v = false := by simp [Sw.turnMay, Hpu.out, g4]
    rw [e, monTurn_n e]; clear e
    go_enter Try.func46, Try.ntmps46
    go_wp2_with (go_at_call 44; apply Calls.mono; apply iCloneInts_c; ((first | (apply Rs.at0; assumption) | (apply Ow.rs0; assumption) | (apply OwT.rs0; assumption)); exact kf_); (first | assumption | omega); rintro E w1 ⟨A1, c1, rfl, ho1, hb⟩; have hst := xr hb; (try simp only [zA, zC, zD, zN] at hst); obtain ⟨hc, hf, hz⟩ := hst)
    obtain ⟨g', x', hA, hlo, hlt, hx, hcx, hfz⟩ := at_OI ho1 hk
    obtain rfl : x' = y := by have := Hy.out; rw [hx] at this; exact Option.some.inj this
    subst hA
    clear hx
    go_wp2_with (first | (go_at_call 42; apply Calls.mono; apply iMonOk_c; ((first | (apply Rs.at0; assumption) | (apply Ow.rs0; assumption) | (apply OwT.rs0; assumption)); exact kf_); rintro E w1 ⟨rfl, hb⟩; have hst := xr hb; (try simp only [zA, zC, zD, zN] at hst); obtain ⟨hc, hf, hz⟩ := hst) | (go_at_call 47; refine (isUser_c _ _).mono ?_; rintro E w' ⟨rfl, rfl⟩) | (go_at_call 48; refine (in_c _ _ _ _).mono ?_; rintro E w' ⟨rfl, rfl⟩))
    go_ret2
    exact ⟨_, c1, rfl, (ho1.keep (by (exact kf_))).less (by exact sz_), ext_⟩
  have e : Sw.turnMay xs (k + 1) v = true := by simp [Sw.turnMay, g1, g2, g3, Hpu.out, g4]
  rw [e, monTurn_y e]; clear e
  go_enter Try.func46, Try.ntmps46
  go_wp2_with (go_at_call 44; apply Calls.mono; apply iCloneInts_c; ((first | (apply Rs.at0; assumption) | (apply Ow.rs0; assumption) | (apply OwT.rs0; assumption)); exact kf_); (first | assumption | omega); rintro E w1 ⟨A1, c1, rfl, ho1, hb⟩; have hst := xr hb; (try simp only [zA, zC, zD, zN] at hst); obtain ⟨hc, hf, hz⟩ := hst)
  obtain ⟨g', x', hA, hlo, hlt, hx, hcx, hfz⟩ := at_OI ho1 hk
  obtain rfl : x' = y := by have := Hy.out; rw [hx] at this; exact Option.some.inj this
  subst hA
  clear hx
  apply Calls.mono; apply iMonOk_c; (first | assumption | ((first | (apply Rs.at0; assumption) | (apply Ow.rs0; assumption) | (apply OwT.rs0; assumption)); exact kf_) | omega); rintro E w3 ⟨rfl, hb3⟩; have hst := xr hb3; (try simp only [zA, zC, zD] at hst); obtain ⟨hc3, hf3, hz3⟩ := hst
  have ho3 := Ow.keep ho1 (KF.ex hb3 (KF.refl _ _))
  go_wp2_with (first | (go_at_call 47; refine (isUser_c _ _).mono ?_; rintro E w' ⟨rfl, rfl⟩) | (go_at_call 48; refine (in_c _ _ _ _).mono ?_; rintro E w' ⟨rfl, rfl⟩))
  go_ret2
  refine ⟨_, _, rfl, ?_, ext_⟩
  have r := OI_set ho3 rfl Hy.out (x' + v)
  rw [Sw.turned, Hpu.out, show ((k : Int) + 1 - 1).toNat = k from by omega]
  exact r.less (by omega)

theorem iMonMove_c (A : Option Addr) (c n : Nat) (xs : List Int) (a b v : Int) (w : World) (hxs : RI w 0 A c n xs) (hn : n ≤ 4194304) : Calls Try.prog 88 #[.slice A n c, .int .i64 a, .int .i64 b, .int .i64 v] w fun E w' => ∃ A' c', E = .returned (.tuple #[.slice A' n c', .bool (Sw.moveMay xs a b v)]) ∧ OwI w' w.heap.size A' c' n (Sw.monMove xs a b v) ∧ Ex w w' := by
  cases g1 : Sw.inR v 0 100000
  case false =>
    have e : Sw.moveMay xs a b v = false := by simp [Sw.moveMay, g1]
    have e2 : Sw.monMove xs a b v = xs := by simp [Sw.monMove, e]
    rw [e, e2]; clear e e2
    go_enter Try.func88, Try.ntmps88
    go_wp2_with (first | (go_at_call 44; apply Calls.mono; apply iCloneInts_c; ((first | (apply Rs.at0; assumption) | (apply Ow.rs0; assumption) | (apply OwT.rs0; assumption)); exact kf_); (first | assumption | omega); rintro E w1 ⟨A1, c1, rfl, ho1, hb⟩; have hst := xr hb; (try simp only [zA, zC, zD, zN] at hst); obtain ⟨hc, hf, hz⟩ := hst) | (go_at_call 48; refine (in_c _ _ _ _).mono ?_; rintro E w' ⟨rfl, rfl⟩))
    go_ret2
    exact ⟨A1, c1, rfl, (ho1.keep (by (exact kf_))).less (by exact sz_), ext_⟩
  have hv := Sw.inR_iff.1 g1
  obtain ⟨v0, v1⟩ := hv
  by_cases g2 : a = b
  case pos =>
    have hab : (a == b) = true := by simp [g2]
    have e : Sw.moveMay xs a b v = false := by simp [Sw.moveMay, g2]
    have e2 : Sw.monMove xs a b v = xs := by simp [Sw.monMove, e]
    rw [e, e2]; clear e e2 g2
    go_enter Try.func88, Try.ntmps88
    go_wp2_with (first | (go_at_call 44; apply Calls.mono; apply iCloneInts_c; ((first | (apply Rs.at0; assumption) | (apply Ow.rs0; assumption) | (apply OwT.rs0; assumption)); exact kf_); (first | assumption | omega); rintro E w1 ⟨A1, c1, rfl, ho1, hb⟩; have hst := xr hb; (try simp only [zA, zC, zD, zN] at hst); obtain ⟨hc, hf, hz⟩ := hst) | (go_at_call 48; refine (in_c _ _ _ _).mono ?_; rintro E w' ⟨rfl, rfl⟩))
    go_ret2
    exact ⟨A1, c1, rfl, (ho1.keep (by (exact kf_))).less (by exact sz_), ext_⟩
  have hab : (a == b) = false := by simp [g2]
  cases g3 : Sw.turnMay xs a (-v)
  case false =>
    have e : Sw.moveMay xs a b v = false := by simp [Sw.moveMay, g3]
    have e2 : Sw.monMove xs a b v = xs := by simp [Sw.monMove, e]
    rw [e, e2]; clear e e2 g2
    go_enter Try.func88, Try.ntmps88
    go_wp2_with (first | (go_at_call 44; apply Calls.mono; apply iCloneInts_c; ((first | (apply Rs.at0; assumption) | (apply Ow.rs0; assumption) | (apply OwT.rs0; assumption)); exact kf_); (first | assumption | omega); rintro E w1 ⟨A1, c1, rfl, ho1, hb⟩; have hst := xr hb; (try simp only [zA, zC, zD, zN] at hst); obtain ⟨hc, hf, hz⟩ := hst) | (go_at_call 48; refine (in_c _ _ _ _).mono ?_; rintro E w' ⟨rfl, rfl⟩) | (go_at_call 46; apply Calls.mono; apply iMonTurn_c; ((first | (apply Rs.at0; assumption) | (apply Ow.rs0; assumption) | (apply OwT.rs0; assumption)); exact kf_); (first | assumption | omega); rintro E w1 ⟨A3, c3, rfl, ho3, hb⟩; have hst := xr hb; (try simp only [zA, zC, zD, zN] at hst); obtain ⟨hc, hf, hz⟩ := hst))
    go_ret2
    exact ⟨A1, c1, rfl, (ho1.keep (by (exact kf_))).less (by exact sz_), ext_⟩
  have e3 := monTurn_y g3
  have E3 := Lib.hid e3; clear e3
  cases g4 : Sw.turnMay (Sw.turned xs a (-v)) b v
  case false =>
    have e : Sw.moveMay xs a b v = false := by simp [Sw.moveMay, g4]
    have e2 : Sw.monMove xs a b v = xs := by simp [Sw.monMove, e]
    rw [e, e2]; clear e e2 g2
    go_enter Try.func88, Try.ntmps88
    go_wp2_with (first | (go_at_call 44; apply Calls.mono; apply iCloneInts_c; ((first | (apply Rs.at0; assumption) | (apply Ow.rs0; assumption) | (apply OwT.rs0; assumption)); exact kf_); (first | assumption | omega); rintro E w1 ⟨A1, c1, rfl, ho1, hb⟩; have hst := xr hb; (try simp only [zA, zC, zD, zN] at hst); obtain ⟨hc, hf, hz⟩ := hst) | (go_at_call 48; refine (in_c _ _ _ _).mono ?_; rintro E w' ⟨rfl, rfl⟩) | (go_at_call 46; apply Calls.mono; apply (iMonTurn_c (xs := Sw.turned xs a (-v))); (first | assumption | ((first | (apply Rs.at0; assumption) | (apply Ow.rs0; assumption) | (apply OwT.rs0; assumption)); exact kf_) | omega); omega; rintro E w4 ⟨A4, c4, rfl, ho4, hb⟩; have hst := xr hb; (try simp only [zA, zC, zD, zN] at hst); obtain ⟨hc, hf, hz⟩ := hst) | (go_at_call 46; apply Calls.mono; apply (iMonTurn_c (xs := xs)); (first | assumption | ((first | (apply Rs.at0; assumption) | (apply Ow.rs0; assumption) | (apply OwT.rs0; assumption)); exact kf_) | omega); omega; rintro E w3 ⟨A3, c3, rfl, ho3, hb⟩; rw [E3.out] at ho3; have hst := xr hb; (try simp only [zA, zC, zD, zN] at hst); obtain ⟨hc, hf, hz⟩ := hst))
    go_ret2
    exact ⟨A1, c1, rfl, (ho1.keep (by (exact kf_))).less (by exact sz_), ext_⟩
  have e : Sw.moveMay xs a b v = true := by simp [Sw.moveMay, g1, g2, g3, g4]
  have e2 : Sw.monMove xs a b v = Sw.turned (Sw.turned xs a (-v)) b v := by simp [Sw.monMove, e]
  have e4 := monTurn_y g4
  have E4 := Lib.hid e4; clear e4
  rw [e, e2]; clear e e2 g2
  go_enter Try.func88, Try.ntmps88
  go_wp2_with (first | (go_at_call 48; refine (in_c _ _ _ _).mono ?_; rintro E w' ⟨rfl, rfl⟩) | (go_at_call 46; apply Calls.mono; apply (iMonTurn_c (xs := Sw.turned xs a (-v))); (first | assumption | ((first | (apply Rs.at0; assumption) | (apply Ow.rs0; assumption) | (apply OwT.rs0; assumption)); exact kf_) | omega); omega; rintro E w4 ⟨A4, c4, rfl, ho4, hb⟩; rw [E4.out] at ho4; have hst := xr hb; (try simp only [zA, zC, zD, zN] at hst); obtain ⟨hc, hf, hz⟩ := hst) | (go_at_call 46; apply Calls.mono; apply (iMonTurn_c (xs := xs)); (first | assumption | ((first | (apply Rs.at0; assumption) | (apply Ow.rs0; assumption) | (apply OwT.rs0; assumption)); exact kf_) | omega); omega; rintro E w3 ⟨A3, c3, rfl, ho3, hb⟩; rw [E3.out] at ho3; have hst := xr hb; (try simp only [zA, zC, zD, zN] at hst); obtain ⟨hc, hf, hz⟩ := hst))
  go_ret2
  exact ⟨A4, c4, rfl, (ho4.keep (by (exact kf_))).less (by exact sz_), ext_⟩

theorem iReqOk_c (r : Sw.Req) (w : World) : Calls Try.prog 24 #[.agg #[.int .i64 r.user, .int .i64 r.n, .int .i64 r.kind, .int .i64 r.ticket, .int .i64 r.who, .int .i64 r.price]] w fun E w' => E = .returned (.bool (Sw.reqOk r)) ∧ Ex w w' := by
  cases g1 : Sw.inR r.user 1 5
  case false => go_enter Try.func24, Try.ntmps24; go_wp2_with (first | (go_at_call 48; refine (in_c _ _ _ _).mono ?_; rintro E w' ⟨rfl, rfl⟩) | (go_at_call 47; refine (isUser_c _ _).mono ?_; rintro E w' ⟨rfl, rfl⟩) | (go_at_call 49; refine (isTicket_c _ _).mono ?_; rintro E w' ⟨rfl, rfl⟩) | (go_at_call 50; refine (isFace_c _ _).mono ?_; rintro E w' ⟨rfl, rfl⟩)); go_ret; exact ⟨ret_b (by simp [Sw.reqOk, g1]), ext_⟩
  cases g2 : Sw.inR r.n 1 99999
  case false => go_enter Try.func24, Try.ntmps24; go_wp2_with (first | (go_at_call 48; refine (in_c _ _ _ _).mono ?_; rintro E w' ⟨rfl, rfl⟩) | (go_at_call 47; refine (isUser_c _ _).mono ?_; rintro E w' ⟨rfl, rfl⟩) | (go_at_call 49; refine (isTicket_c _ _).mono ?_; rintro E w' ⟨rfl, rfl⟩) | (go_at_call 50; refine (isFace_c _ _).mono ?_; rintro E w' ⟨rfl, rfl⟩)); go_ret; exact ⟨ret_b (by simp [Sw.reqOk, g2]), ext_⟩
  cases g3 : Sw.inR r.kind 1 6
  case false => go_enter Try.func24, Try.ntmps24; go_wp2_with (first | (go_at_call 48; refine (in_c _ _ _ _).mono ?_; rintro E w' ⟨rfl, rfl⟩) | (go_at_call 47; refine (isUser_c _ _).mono ?_; rintro E w' ⟨rfl, rfl⟩) | (go_at_call 49; refine (isTicket_c _ _).mono ?_; rintro E w' ⟨rfl, rfl⟩) | (go_at_call 50; refine (isFace_c _ _).mono ?_; rintro E w' ⟨rfl, rfl⟩)); go_ret; exact ⟨ret_b (by simp [Sw.reqOk, g3]), ext_⟩
  cases g4 : Sw.inR r.ticket 0 7
  case false => go_enter Try.func24, Try.ntmps24; go_wp2_with (first | (go_at_call 48; refine (in_c _ _ _ _).mono ?_; rintro E w' ⟨rfl, rfl⟩) | (go_at_call 47; refine (isUser_c _ _).mono ?_; rintro E w' ⟨rfl, rfl⟩) | (go_at_call 49; refine (isTicket_c _ _).mono ?_; rintro E w' ⟨rfl, rfl⟩) | (go_at_call 50; refine (isFace_c _ _).mono ?_; rintro E w' ⟨rfl, rfl⟩)); go_ret; exact ⟨ret_b (by simp [Sw.reqOk, g4]), ext_⟩
  have e : Sw.reqOk r = (if r.kind = 1 then Sw.inR r.who 1 5 && Sw.inR r.price 1 50 else decide (r.who = 0) && (if r.kind = 2 then Sw.inR r.price 1 999 else decide (r.price = 0))) := by simp [Sw.reqOk, g1, g2, g3, g4]
  have He := Lib.hid e; clear e
  by_cases k1 : r.kind = 1
  · have k1' : (r.kind == 1) = true := by simp [k1]
    have K1 := Lib.hid k1; clear k1
    cases g5 : Sw.inR r.who 1 5
    all_goals
      go_enter Try.func24, Try.ntmps24
      go_wp2_with (first | (go_at_call 48; refine (in_c _ _ _ _).mono ?_; rintro E w' ⟨rfl, rfl⟩) | (go_at_call 47; refine (isUser_c _ _).mono ?_; rintro E w' ⟨rfl, rfl⟩) | (go_at_call 49; refine (isTicket_c _ _).mono ?_; rintro E w' ⟨rfl, rfl⟩) | (go_at_call 50; refine (isFace_c _ _).mono ?_; rintro E w' ⟨rfl, rfl⟩))
      go_ret
      exact ⟨ret_b (by rw [He.out, if_pos K1.out]; simp [g5]), ext_⟩
  have k1' : (r.kind == 1) = false := by simp [k1]
  cases g5 : (r.who == 0)
  all_goals
    by_cases k2 : r.kind = 2
    · have k2' : (r.kind == 2) = true := by simp [k2]
      have K2 := Lib.hid k2; clear k2
      cases g6 : Sw.inR r.price 1 999
      all_goals
        go_enter Try.func24, Try.ntmps24
        go_wp2_with (first | (go_at_call 48; refine (in_c _ _ _ _).mono ?_; rintro E w' ⟨rfl, rfl⟩) | (go_at_call 47; refine (isUser_c _ _).mono ?_; rintro E w' ⟨rfl, rfl⟩) | (go_at_call 49; refine (isTicket_c _ _).mono ?_; rintro E w' ⟨rfl, rfl⟩) | (go_at_call 50; refine (isFace_c _ _).mono ?_; rintro E w' ⟨rfl, rfl⟩))
        go_ret
        exact ⟨ret_b (by rw [He.out, if_neg k1, if_pos K2.out]; rw [← beqI, g5, g6]; rfl), ext_⟩
    have k2' : (r.kind == 2) = false := by simp [k2]
    cases g6 : (r.price == 0)
    all_goals
      go_enter Try.func24, Try.ntmps24
      go_wp2_with (first | (go_at_call 48; refine (in_c _ _ _ _).mono ?_; rintro E w' ⟨rfl, rfl⟩) | (go_at_call 47; refine (isUser_c _ _).mono ?_; rintro E w' ⟨rfl, rfl⟩) | (go_at_call 49; refine (isTicket_c _ _).mono ?_; rintro E w' ⟨rfl, rfl⟩) | (go_at_call 50; refine (isFace_c _ _).mono ?_; rintro E w' ⟨rfl, rfl⟩))
      go_ret
      exact ⟨ret_b (by rw [He.out, if_neg k1, if_neg k2]; rw [← beqI, ← beqI, g5, g6]; rfl), ext_⟩

end Go.Proofs.Ytdcjadgflenejaa

