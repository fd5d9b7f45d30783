/- Texts joined: ImpD. -/
import Derived.Test.YtnnoiagommiapaaGreatPz15
import Derived.Test.YtnnoiagommiapaaGreatPz12
set_option maxRecDepth 100000
set_option linter.unusedSimpArgs false
set_option linter.unusedVariables false
namespace Go.Proofs.YtnnoiagommiapaaGreat
open Go.RowKit Go
set_option maxHeartbeats 1000000
theorem iMonTurn_c (A : Option Addr) (c n : Nat) (xs : List Int) (who v : Int) (w : World) (hxs : RI w 0 A c n xs) (hn : n ≤ 4194304) : Calls Tryz.prog 180 #[.slice A n c, .int .i64 who, .int .i64 v] w fun E w' => ∃ A' c', E = .returned (.tuple #[.slice A' n c', .bool (Sw.turnMay xs who v)]) ∧ OwI w' w.heap.size A' c' n (Sw.monTurn xs who v) ∧ Ex w w' := by
 cases g1 : Sw.monOk xs
 case false =>
   have e : Sw.turnMay xs who v = false := by simp [Sw.turnMay, g1]
   rw [e, monTurn_n e]; clear e
   go_enter Tryz.func180, Tryz.ntmps180
   go_wp2_with (first | (go_at_call 119; apply Calls.mono; apply iCloneInts_c; (exact rdw_); (first | assumption | omega); rintro E w1 ⟨A1, c1, rfl, ho1, hb⟩; obtain ⟨hc, hf, hz⟩ := xy hb) | (go_at_call 118; apply Calls.mono; apply iMonOk_c; (exact rdw_); rintro E w1 ⟨rfl, hb⟩; obtain ⟨hc, hf, hz⟩ := xy hb))
   go_ret2
   exact ⟨A1, c1, rfl, (ho1.keep (by (exact kf_))).less (by exact sz_), ext_⟩
 have h5 := monOk_len g1
 have hn5 : n = 5 := by rw [hxs.1, h5]
 subst hn5
 clear h5
 cases g2 : Sw.inR who 1 5
 case false =>
   have e : Sw.turnMay xs who v = false := by simp [Sw.turnMay, g2]
   rw [e, monTurn_n e]; clear e
   go_enter Tryz.func180, Tryz.ntmps180
   go_wp2_with (first | (go_at_call 119; apply Calls.mono; apply iCloneInts_c; (exact rdw_); (first | assumption | omega); rintro E w1 ⟨A1, c1, rfl, ho1, hb⟩; obtain ⟨hc, hf, hz⟩ := xy hb) | (go_at_call 118; apply Calls.mono; apply iMonOk_c; (exact rdw_); rintro E w1 ⟨rfl, hb⟩; obtain ⟨hc, hf, hz⟩ := xy hb) | (go_at_call 181; refine (isUser_c _ _).mono ?_; rintro E w' ⟨rfl, rfl⟩) | (go_at_call 121; refine (in_c _ _ _ _).mono ?_; rintro E w' ⟨rfl, rfl⟩))
   go_ret2
   exact ⟨A1, c1, rfl, (ho1.keep (by (exact kf_))).less (by exact sz_), ext_⟩
 cases g3 : Sw.inR v (-100000) 100000
 case false =>
   have e : Sw.turnMay xs who v = false := by simp [Sw.turnMay, g3]
   rw [e, monTurn_n e]; clear e
   go_enter Tryz.func180, Tryz.ntmps180
   go_wp2_with (first | (go_at_call 119; apply Calls.mono; apply iCloneInts_c; (exact rdw_); (first | assumption | omega); rintro E w1 ⟨A1, c1, rfl, ho1, hb⟩; obtain ⟨hc, hf, hz⟩ := xy hb) | (go_at_call 118; apply Calls.mono; apply iMonOk_c; (exact rdw_); rintro E w1 ⟨rfl, hb⟩; obtain ⟨hc, hf, hz⟩ := xy hb) | (go_at_call 181; refine (isUser_c _ _).mono ?_; rintro E w' ⟨rfl, rfl⟩) | (go_at_call 121; refine (in_c _ _ _ _).mono ?_; rintro E w' ⟨rfl, rfl⟩))
   go_ret2
   exact ⟨A1, c1, rfl, (ho1.keep (by (exact kf_))).less (by exact sz_), ext_⟩
 have hw := Sw.inR_iff.1 g2
 have hv := Sw.inR_iff.1 g3
 obtain ⟨k, rfl⟩ : ∃ k : Nat, who = k + 1 := ⟨(who - 1).toNat, by omega⟩
 have hk : k < 5 := by omega
 obtain ⟨g, off, y, rfl, hg0, hg, hd, hy, hc0⟩ := at_I hxs hk
 have hyb : 0 ≤ y ∧ y ≤ 100000 := (Sw.monOk_iff.1 g1).2 y (List.mem_of_getElem? hy)
 have hpu := purse_at hy
 have Hpu := Lib.hid hpu
 have Hy := Lib.hid hy
 clear hd hy hpu
 obtain ⟨y0, y1⟩ := hyb
 obtain ⟨v0, v1⟩ := hv
 clear hw
 have t2 : IntKind.i64.wrap ((k : Int) + 1 - 1) = k := by rw [IntWalk.i64_in _ (by omega)]; omega
 cases g4 : Sw.inR (y + v) 0 100000
 case false =>
   have e : Sw.turnMay xs (k + 1) v = false := by simp [Sw.turnMay, Hpu.out, g4]
   rw [e, monTurn_n e]; clear e
   go_enter Tryz.func180, Tryz.ntmps180
   go_wp2_with (go_at_call 119; apply Calls.mono; apply iCloneInts_c; (exact rdw_); (first | assumption | omega); rintro E w1 ⟨A1, c1, rfl, ho1, hb⟩; obtain ⟨hc, hf, hz⟩ := xy hb)
   obtain ⟨g', x', hA, hlo, hlt, hx, hcx, hfz⟩ := at_OI ho1 hk
   obtain rfl : x' = y := by have := Hy.out; rw [hx] at this; exact Option.some.inj this
   subst hA
   clear hx
   go_wp2_with (first | (go_at_call 118; apply Calls.mono; apply iMonOk_c; (exact rdw_); rintro E w1 ⟨rfl, hb⟩; obtain ⟨hc, hf, hz⟩ := xy hb) | (go_at_call 181; refine (isUser_c _ _).mono ?_; rintro E w' ⟨rfl, rfl⟩) | (go_at_call 121; refine (in_c _ _ _ _).mono ?_; rintro E w' ⟨rfl, rfl⟩))
   go_ret2
   exact ⟨_, c1, rfl, (ho1.keep (by (exact kf_))).less (by exact sz_), ext_⟩
 have e : Sw.turnMay xs (k + 1) v = true := by simp [Sw.turnMay, g1, g2, g3, Hpu.out, g4]
 rw [e, monTurn_y e]; clear e
 go_enter Tryz.func180, Tryz.ntmps180
 go_wp2_with (go_at_call 119; apply Calls.mono; apply iCloneInts_c; (exact rdw_); (first | assumption | omega); rintro E w1 ⟨A1, c1, rfl, ho1, hb⟩; obtain ⟨hc, hf, hz⟩ := xy hb)
 obtain ⟨g', x', hA, hlo, hlt, hx, hcx, hfz⟩ := at_OI ho1 hk
 obtain rfl : x' = y := by have := Hy.out; rw [hx] at this; exact Option.some.inj this
 subst hA
 clear hx
 apply Calls.mono; apply iMonOk_c; (first | assumption | (exact rdw_) | omega); rintro E w3 ⟨rfl, hb3⟩; have hst := xr hb3; (try simp only [zA, zC, zD] at hst); obtain ⟨hc3, hf3, hz3⟩ := hst
 have ho3 := Ow.keep ho1 (KF.ex hb3 (KF.refl _ _))
 go_wp2_with (first | (go_at_call 181; refine (isUser_c _ _).mono ?_; rintro E w' ⟨rfl, rfl⟩) | (go_at_call 121; refine (in_c _ _ _ _).mono ?_; rintro E w' ⟨rfl, rfl⟩))
 go_ret2
 refine ⟨_, _, rfl, ?_, ext_⟩
 have r := OI_set ho3 rfl Hy.out (x' + v)
 rw [Sw.turned, Hpu.out, show ((k : Int) + 1 - 1).toNat = k from by omega]
 exact r.less (by omega)
theorem iMonMove_c (A : Option Addr) (c n : Nat) (xs : List Int) (a b v : Int) (w : World) (hxs : RI w 0 A c n xs) (hn : n ≤ 4194304) : Calls Tryz.prog 261 #[.slice A n c, .int .i64 a, .int .i64 b, .int .i64 v] w fun E w' => ∃ A' c', E = .returned (.tuple #[.slice A' n c', .bool (Sw.moveMay xs a b v)]) ∧ OwI w' w.heap.size A' c' n (Sw.monMove xs a b v) ∧ Ex w w' := by
 cases g1 : Sw.inR v 0 100000
 case false =>
   have e : Sw.moveMay xs a b v = false := by simp [Sw.moveMay, g1]
   have e2 : Sw.monMove xs a b v = xs := by simp [Sw.monMove, e]
   rw [e, e2]; clear e e2
   go_enter Tryz.func261, Tryz.ntmps261
   go_wp2_with (first | (go_at_call 119; apply Calls.mono; apply iCloneInts_c; (exact rdw_); (first | assumption | omega); rintro E w1 ⟨A1, c1, rfl, ho1, hb⟩; obtain ⟨hc, hf, hz⟩ := xy hb) | (go_at_call 121; refine (in_c _ _ _ _).mono ?_; rintro E w' ⟨rfl, rfl⟩))
   go_ret2
   exact ⟨A1, c1, rfl, (ho1.keep (by (exact kf_))).less (by exact sz_), ext_⟩
 have hv := Sw.inR_iff.1 g1
 obtain ⟨v0, v1⟩ := hv
 by_cases g2 : a = b
 case pos =>
   have hab : (a == b) = true := by simp [g2]
   have e : Sw.moveMay xs a b v = false := by simp [Sw.moveMay, g2]
   have e2 : Sw.monMove xs a b v = xs := by simp [Sw.monMove, e]
   rw [e, e2]; clear e e2 g2
   go_enter Tryz.func261, Tryz.ntmps261
   go_wp2_with (first | (go_at_call 119; apply Calls.mono; apply iCloneInts_c; (exact rdw_); (first | assumption | omega); rintro E w1 ⟨A1, c1, rfl, ho1, hb⟩; obtain ⟨hc, hf, hz⟩ := xy hb) | (go_at_call 121; refine (in_c _ _ _ _).mono ?_; rintro E w' ⟨rfl, rfl⟩))
   go_ret2
   exact ⟨A1, c1, rfl, (ho1.keep (by (exact kf_))).less (by exact sz_), ext_⟩
 have hab : (a == b) = false := by simp [g2]
 cases g3 : Sw.turnMay xs a (-v)
 case false =>
   have e : Sw.moveMay xs a b v = false := by simp [Sw.moveMay, g3]
   have e2 : Sw.monMove xs a b v = xs := by simp [Sw.monMove, e]
   rw [e, e2]; clear e e2 g2
   go_enter Tryz.func261, Tryz.ntmps261
   go_wp2_with (first | (go_at_call 119; apply Calls.mono; apply iCloneInts_c; (exact rdw_); (first | assumption | omega); rintro E w1 ⟨A1, c1, rfl, ho1, hb⟩; obtain ⟨hc, hf, hz⟩ := xy hb) | (go_at_call 121; refine (in_c _ _ _ _).mono ?_; rintro E w' ⟨rfl, rfl⟩) | (go_at_call 180; apply Calls.mono; apply iMonTurn_c; (exact rdw_); (first | assumption | omega); rintro E w1 ⟨A3, c3, rfl, ho3, hb⟩; obtain ⟨hc, hf, hz⟩ := xy hb))
   go_ret2
   exact ⟨A1, c1, rfl, (ho1.keep (by (exact kf_))).less (by exact sz_), ext_⟩
 have e3 := monTurn_y g3
 have E3 := Lib.hid e3; clear e3
 cases g4 : Sw.turnMay (Sw.turned xs a (-v)) b v
 case false =>
   have e : Sw.moveMay xs a b v = false := by simp [Sw.moveMay, g4]
   have e2 : Sw.monMove xs a b v = xs := by simp [Sw.monMove, e]
   rw [e, e2]; clear e e2 g2
   go_enter Tryz.func261, Tryz.ntmps261
   go_wp2_with (first | (go_at_call 119; apply Calls.mono; apply iCloneInts_c; (exact rdw_); (first | assumption | omega); rintro E w1 ⟨A1, c1, rfl, ho1, hb⟩; obtain ⟨hc, hf, hz⟩ := xy hb) | (go_at_call 121; refine (in_c _ _ _ _).mono ?_; rintro E w' ⟨rfl, rfl⟩) | (go_at_call 180; apply Calls.mono; apply (iMonTurn_c (xs := Sw.turned xs a (-v))); (first | assumption | (exact rdw_) | omega); omega; rintro E w4 ⟨A4, c4, rfl, ho4, hb⟩; obtain ⟨hc, hf, hz⟩ := xy hb) | (go_at_call 180; apply Calls.mono; apply (iMonTurn_c (xs := xs)); (first | assumption | (exact rdw_) | omega); omega; rintro E w3 ⟨A3, c3, rfl, ho3, hb⟩; rw [E3.out] at ho3; obtain ⟨hc, hf, hz⟩ := xy hb))
   go_ret2
   exact ⟨A1, c1, rfl, (ho1.keep (by (exact kf_))).less (by exact sz_), ext_⟩
 have e : Sw.moveMay xs a b v = true := by simp [Sw.moveMay, g1, g2, g3, g4]
 have e2 : Sw.monMove xs a b v = Sw.turned (Sw.turned xs a (-v)) b v := by simp [Sw.monMove, e]
 have e4 := monTurn_y g4
 have E4 := Lib.hid e4; clear e4
 rw [e, e2]; clear e e2 g2
 go_enter Tryz.func261, Tryz.ntmps261
 go_wp2_with (first | (go_at_call 121; refine (in_c _ _ _ _).mono ?_; rintro E w' ⟨rfl, rfl⟩) | (go_at_call 180; apply Calls.mono; apply (iMonTurn_c (xs := Sw.turned xs a (-v))); (first | assumption | (exact rdw_) | omega); omega; rintro E w4 ⟨A4, c4, rfl, ho4, hb⟩; rw [E4.out] at ho4; obtain ⟨hc, hf, hz⟩ := xy hb) | (go_at_call 180; apply Calls.mono; apply (iMonTurn_c (xs := xs)); (first | assumption | (exact rdw_) | omega); omega; rintro E w3 ⟨A3, c3, rfl, ho3, hb⟩; rw [E3.out] at ho3; obtain ⟨hc, hf, hz⟩ := xy hb))
 go_ret2
 exact ⟨A4, c4, rfl, (ho4.keep (by (exact kf_))).less (by exact sz_), ext_⟩
theorem iReqOk_c (r : Sw.Req) (w : World) : Calls Tryz.prog 109 #[.agg #[.int .i64 r.user, .int .i64 r.n, .int .i64 r.kind, .int .i64 r.ticket, .int .i64 r.who, .int .i64 r.price]] w fun E w' => E = .returned (.bool (Sw.reqOk r)) ∧ Ex w w' := by
 cases g1 : Sw.inR r.user 1 5
 case false => go_enter Tryz.func109, Tryz.ntmps109; go_wp2_with (first | (go_at_call 121; refine (in_c _ _ _ _).mono ?_; rintro E w' ⟨rfl, rfl⟩) | (go_at_call 181; refine (isUser_c _ _).mono ?_; rintro E w' ⟨rfl, rfl⟩) | (go_at_call 130; refine (isTicket_c _ _).mono ?_; rintro E w' ⟨rfl, rfl⟩) | (go_at_call 182; refine (isFace_c _ _).mono ?_; rintro E w' ⟨rfl, rfl⟩)); go_ret; exact ⟨ret_b (by simp [Sw.reqOk, g1]), ext_⟩
 cases g2 : Sw.inR r.n 1 99999
 case false => go_enter Tryz.func109, Tryz.ntmps109; go_wp2_with (first | (go_at_call 121; refine (in_c _ _ _ _).mono ?_; rintro E w' ⟨rfl, rfl⟩) | (go_at_call 181; refine (isUser_c _ _).mono ?_; rintro E w' ⟨rfl, rfl⟩) | (go_at_call 130; refine (isTicket_c _ _).mono ?_; rintro E w' ⟨rfl, rfl⟩) | (go_at_call 182; refine (isFace_c _ _).mono ?_; rintro E w' ⟨rfl, rfl⟩)); go_ret; exact ⟨ret_b (by simp [Sw.reqOk, g2]), ext_⟩
 cases g3 : Sw.inR r.kind 1 6
 case false => go_enter Tryz.func109, Tryz.ntmps109; go_wp2_with (first | (go_at_call 121; refine (in_c _ _ _ _).mono ?_; rintro E w' ⟨rfl, rfl⟩) | (go_at_call 181; refine (isUser_c _ _).mono ?_; rintro E w' ⟨rfl, rfl⟩) | (go_at_call 130; refine (isTicket_c _ _).mono ?_; rintro E w' ⟨rfl, rfl⟩) | (go_at_call 182; refine (isFace_c _ _).mono ?_; rintro E w' ⟨rfl, rfl⟩)); go_ret; exact ⟨ret_b (by simp [Sw.reqOk, g3]), ext_⟩
 cases g4 : Sw.inR r.ticket 0 7
 case false => go_enter Tryz.func109, Tryz.ntmps109; go_wp2_with (first | (go_at_call 121; refine (in_c _ _ _ _).mono ?_; rintro E w' ⟨rfl, rfl⟩) | (go_at_call 181; refine (isUser_c _ _).mono ?_; rintro E w' ⟨rfl, rfl⟩) | (go_at_call 130; refine (isTicket_c _ _).mono ?_; rintro E w' ⟨rfl, rfl⟩) | (go_at_call 182; refine (isFace_c _ _).mono ?_; rintro E w' ⟨rfl, rfl⟩)); go_ret; exact ⟨ret_b (by simp [Sw.reqOk, g4]), ext_⟩
 have e : Sw.reqOk r = (if r.kind = 1 then Sw.inR r.who 1 5 && Sw.inR r.price 1 50 else decide (r.who = 0) && (if r.kind = 2 then Sw.inR r.price 1 999 else decide (r.price = 0))) := by simp [Sw.reqOk, g1, g2, g3, g4]
 have He := Lib.hid e; clear e
 by_cases k1 : r.kind = 1
 · have k1' : (r.kind == 1) = true := by simp [k1]
   have K1 := Lib.hid k1; clear k1
   cases g5 : Sw.inR r.who 1 5
   all_goals
     go_enter Tryz.func109, Tryz.ntmps109
     go_wp2_with (first | (go_at_call 121; refine (in_c _ _ _ _).mono ?_; rintro E w' ⟨rfl, rfl⟩) | (go_at_call 181; refine (isUser_c _ _).mono ?_; rintro E w' ⟨rfl, rfl⟩) | (go_at_call 130; refine (isTicket_c _ _).mono ?_; rintro E w' ⟨rfl, rfl⟩) | (go_at_call 182; refine (isFace_c _ _).mono ?_; rintro E w' ⟨rfl, rfl⟩))
     go_ret
     exact ⟨ret_b (by rw [He.out, if_pos K1.out]; simp [g5]), ext_⟩
 have k1' : (r.kind == 1) = false := by simp [k1]
 cases g5 : (r.who == 0)
 all_goals
   by_cases k2 : r.kind = 2
   · have k2' : (r.kind == 2) = true := by simp [k2]
     have K2 := Lib.hid k2; clear k2
     cases g6 : Sw.inR r.price 1 999
     all_goals
       go_enter Tryz.func109, Tryz.ntmps109
       go_wp2_with (first | (go_at_call 121; refine (in_c _ _ _ _).mono ?_; rintro E w' ⟨rfl, rfl⟩) | (go_at_call 181; refine (isUser_c _ _).mono ?_; rintro E w' ⟨rfl, rfl⟩) | (go_at_call 130; refine (isTicket_c _ _).mono ?_; rintro E w' ⟨rfl, rfl⟩) | (go_at_call 182; refine (isFace_c _ _).mono ?_; rintro E w' ⟨rfl, rfl⟩))
       go_ret
       exact ⟨ret_b (by rw [He.out, if_neg k1, if_pos K2.out]; rw [← beqI, g5, g6]; rfl), ext_⟩
   have k2' : (r.kind == 2) = false := by simp [k2]
   cases g6 : (r.price == 0)
   all_goals
     go_enter Tryz.func109, Tryz.ntmps109
     go_wp2_with (first | (go_at_call 121; refine (in_c _ _ _ _).mono ?_; rintro E w' ⟨rfl, rfl⟩) | (go_at_call 181; refine (isUser_c _ _).mono ?_; rintro E w' ⟨rfl, rfl⟩) | (go_at_call 130; refine (isTicket_c _ _).mono ?_; rintro E w' ⟨rfl, rfl⟩) | (go_at_call 182; refine (isFace_c _ _).mono ?_; rintro E w' ⟨rfl, rfl⟩))
     go_ret
     exact ⟨ret_b (by rw [He.out, if_neg k1, if_neg k2]; rw [← beqI, ← beqI, g5, g6]; rfl), ext_⟩
theorem iDealOk_c (aL : Option Addr) (aLc aLn : Nat) (aP : Option Addr) (aPc aPn : Nat) (aD : Option Addr) (aDc aDn : Nat) (aN : Option Addr) (aNc aNn : Nat) (aS : Option Addr) (aSc aSn : Nat) (m : Sw.Mkt) (d : Sw.Deal) (A : Option Addr) (c : Nat) (rows : List Sw.Row) (w : World) (hrr : RR w 0 A c 8 rows) (hck0 : 0 ≤ m.clock) (hck1 : m.clock ≤ 99999) : Calls Tryz.prog 122 #[.agg #[.slice aL aLn aLc, .slice aP aPn aPc, .slice aD aDn aDc, .int .i64 m.clock, .slice aN aNn aNc, .slice aS aSn aSc], .agg #[.int .i64 d.ticket, .int .i64 d.seller, .int .i64 d.price, .int .i64 d.buyer, .int .i64 d.due], .slice A 8 c] w fun E w' => E = .returned (.bool (Sw.dealOk m.clock rows d)) ∧ Ex w w' := by
 cases c1 : Sw.inR d.ticket 0 7
 case false =>
   go_enter Tryz.func122, Tryz.ntmps122; go_wp2_with (first | (go_at_call 130; refine (isTicket_c _ _).mono ?_; rintro E w' ⟨rfl, rfl⟩) | (go_at_call 181; refine (isUser_c _ _).mono ?_; rintro E w' ⟨rfl, rfl⟩)); go_ret; exact ⟨ret_b (by simp [Sw.dealOk, c1]), ext_⟩
 cases c2 : Sw.inR d.seller 1 5
 case false =>
   go_enter Tryz.func122, Tryz.ntmps122; go_wp2_with (first | (go_at_call 130; refine (isTicket_c _ _).mono ?_; rintro E w' ⟨rfl, rfl⟩) | (go_at_call 181; refine (isUser_c _ _).mono ?_; rintro E w' ⟨rfl, rfl⟩)); go_ret; exact ⟨ret_b (by simp [Sw.dealOk, c2]), ext_⟩
 obtain ⟨y0, y7⟩ := Sw.inR_iff.1 c1
 obtain ⟨t, ht⟩ := Int.eq_ofNat_of_zero_le y0
 have e0 : d.ticket.toNat = t := by omega
 have ht8 : t < 8 := by omega
 have y8 : d.ticket < 8 := by omega
 have HT := Lib.hid ht
 clear ht
 obtain ⟨gr, offr, r, rfl, hgr0, hgr, hdr, hyr, r0, r1, r2⟩ := at_R hrr ht8
 have hrow : Sw.rowAt rows d.ticket = r := by simp [Sw.rowAt, e0, hyr]
 have e : Sw.dealOk m.clock rows d = (decide (r.who = d.seller) && !r.used && Sw.inR d.price 1 (Sw.entCap r.face) && (if d.buyer = 0 then decide (d.due = 0) else Sw.inR d.buyer 1 5 && decide (d.buyer ≠ d.seller) && Sw.inR d.due m.clock (m.clock + 5))) := by
   rw [Sw.dealOk, hrow, c1, c2]; simp
 have He := Lib.hid e
 clear hdr hyr hrow e
 obtain ⟨rw_, rf, ru⟩ := r
 dsimp only at r0 r1 r2
 cases c3 : (rw_ == d.seller)
 case false =>
   have c3' : (rw_ != d.seller) = true := by rw [bne, c3]; rfl
   go_enter Tryz.func122, Tryz.ntmps122; go_wp2_with (first | (go_at_call 130; refine (isTicket_c _ _).mono ?_; rintro E w' ⟨rfl, rfl⟩) | (go_at_call 181; refine (isUser_c _ _).mono ?_; rintro E w' ⟨rfl, rfl⟩)); go_quiet ((first | (go_at_call 190; exact Calls.quiet_same (iEntCap_c _ _)) | (go_at_call 121; exact Calls.quiet_same (in_c _ _ _ _)))); go_wp2_with (first | (go_at_call 181; refine (isUser_c _ _).mono ?_; rintro E w' ⟨rfl, rfl⟩) | (go_at_call 121; refine (in_c _ _ _ _).mono ?_; rintro E w' ⟨rfl, rfl⟩)); go_ret; exact ⟨ret_b (by rw [He.out, ← beqI, c3]; simp), ext_⟩
 have c3' : (rw_ != d.seller) = false := by rw [bne, c3]; rfl
 cases ru
 case true =>
   go_enter Tryz.func122, Tryz.ntmps122; go_wp2_with (first | (go_at_call 130; refine (isTicket_c _ _).mono ?_; rintro E w' ⟨rfl, rfl⟩) | (go_at_call 181; refine (isUser_c _ _).mono ?_; rintro E w' ⟨rfl, rfl⟩)); go_quiet ((first | (go_at_call 190; exact Calls.quiet_same (iEntCap_c _ _)) | (go_at_call 121; exact Calls.quiet_same (in_c _ _ _ _)))); go_wp2_with (first | (go_at_call 181; refine (isUser_c _ _).mono ?_; rintro E w' ⟨rfl, rfl⟩) | (go_at_call 121; refine (in_c _ _ _ _).mono ?_; rintro E w' ⟨rfl, rfl⟩)); go_ret; exact ⟨ret_b (by rw [He.out]; simp), ext_⟩
 cases c6 : Sw.inR d.price 1 (Sw.entCap rf)
 case false =>
   go_enter Tryz.func122, Tryz.ntmps122; go_wp2_with (first | (go_at_call 130; refine (isTicket_c _ _).mono ?_; rintro E w' ⟨rfl, rfl⟩) | (go_at_call 181; refine (isUser_c _ _).mono ?_; rintro E w' ⟨rfl, rfl⟩)); go_quiet ((first | (go_at_call 190; exact Calls.quiet_same (iEntCap_c _ _)) | (go_at_call 121; exact Calls.quiet_same (in_c _ _ _ _)))); go_wp2_with (first | (go_at_call 181; refine (isUser_c _ _).mono ?_; rintro E w' ⟨rfl, rfl⟩) | (go_at_call 121; refine (in_c _ _ _ _).mono ?_; rintro E w' ⟨rfl, rfl⟩)); go_ret; exact ⟨ret_b (by rw [He.out]; simp [c6]), ext_⟩
 by_cases b0 : d.buyer = 0
 · have b1 : (d.buyer == 0) = true := by simp [b0]
   have B0 := Lib.hid b0; clear b0
   go_enter Tryz.func122, Tryz.ntmps122; go_wp2_with (first | (go_at_call 130; refine (isTicket_c _ _).mono ?_; rintro E w' ⟨rfl, rfl⟩) | (go_at_call 181; refine (isUser_c _ _).mono ?_; rintro E w' ⟨rfl, rfl⟩)); go_quiet ((first | (go_at_call 190; exact Calls.quiet_same (iEntCap_c _ _)) | (go_at_call 121; exact Calls.quiet_same (in_c _ _ _ _)))); go_wp2_with (first | (go_at_call 181; refine (isUser_c _ _).mono ?_; rintro E w' ⟨rfl, rfl⟩) | (go_at_call 121; refine (in_c _ _ _ _).mono ?_; rintro E w' ⟨rfl, rfl⟩)); go_ret; exact ⟨ret_b (by rw [He.out, if_pos B0.out, ← beqI, c3, c6, ← beqI]; simp), ext_⟩
 have b1 : (d.buyer == 0) = false := by simp [b0]
 have B0 := Lib.hid b0; clear b0
 cases c7 : Sw.inR d.buyer 1 5
 case false =>
   go_enter Tryz.func122, Tryz.ntmps122; go_wp2_with (first | (go_at_call 130; refine (isTicket_c _ _).mono ?_; rintro E w' ⟨rfl, rfl⟩) | (go_at_call 181; refine (isUser_c _ _).mono ?_; rintro E w' ⟨rfl, rfl⟩)); go_quiet ((first | (go_at_call 190; exact Calls.quiet_same (iEntCap_c _ _)) | (go_at_call 121; exact Calls.quiet_same (in_c _ _ _ _)))); go_wp2_with (first | (go_at_call 181; refine (isUser_c _ _).mono ?_; rintro E w' ⟨rfl, rfl⟩) | (go_at_call 121; refine (in_c _ _ _ _).mono ?_; rintro E w' ⟨rfl, rfl⟩)); go_ret; exact ⟨ret_b (by rw [He.out, if_neg B0.out, c7]; simp), ext_⟩
 cases c8 : (d.buyer == d.seller)
 case true =>
   have c8' : (d.buyer != d.seller) = false := by rw [bne, c8]; rfl
   go_enter Tryz.func122, Tryz.ntmps122; go_wp2_with (first | (go_at_call 130; refine (isTicket_c _ _).mono ?_; rintro E w' ⟨rfl, rfl⟩) | (go_at_call 181; refine (isUser_c _ _).mono ?_; rintro E w' ⟨rfl, rfl⟩)); go_quiet ((first | (go_at_call 190; exact Calls.quiet_same (iEntCap_c _ _)) | (go_at_call 121; exact Calls.quiet_same (in_c _ _ _ _)))); go_wp2_with (first | (go_at_call 181; refine (isUser_c _ _).mono ?_; rintro E w' ⟨rfl, rfl⟩) | (go_at_call 121; refine (in_c _ _ _ _).mono ?_; rintro E w' ⟨rfl, rfl⟩)); go_ret; exact ⟨ret_b (by rw [He.out, if_neg B0.out, decide_not, ← beqI d.buyer, c8]; simp), ext_⟩
 have c8' : (d.buyer != d.seller) = true := by rw [bne, c8]; rfl
 go_enter Tryz.func122, Tryz.ntmps122; go_wp2_with (first | (go_at_call 130; refine (isTicket_c _ _).mono ?_; rintro E w' ⟨rfl, rfl⟩) | (go_at_call 181; refine (isUser_c _ _).mono ?_; rintro E w' ⟨rfl, rfl⟩)); go_quiet ((first | (go_at_call 190; exact Calls.quiet_same (iEntCap_c _ _)) | (go_at_call 121; exact Calls.quiet_same (in_c _ _ _ _)))); go_wp2_with (first | (go_at_call 181; refine (isUser_c _ _).mono ?_; rintro E w' ⟨rfl, rfl⟩) | (go_at_call 121; refine (in_c _ _ _ _).mono ?_; rintro E w' ⟨rfl, rfl⟩)); go_ret; exact ⟨ret_b (by rw [He.out, if_neg B0.out, decide_not, ← beqI d.buyer, c8, ← beqI, c3, c6, c7]; simp), ext_⟩
end Go.Proofs.YtnnoiagommiapaaGreat
