/- Texts joined: Mon2, Mon1, Gate2. -/
import Derived.Test.YtnnoiagommiapaaGreatPz7
import Derived.Test.YtnnoiagommiapaaGreatPz8
import Derived.Test.YtnnoiagommiapaaGreatPz11
set_option maxRecDepth 100000
set_option linter.unusedSimpArgs false
set_option linter.unusedVariables false
namespace Go.Proofs.YtnnoiagommiapaaGreat
open Go.RowKit Go
set_option maxHeartbeats 400000
theorem sMonOk_c (A : Option Addr) (c n : Nat) (xs : List Int) (w : World) (hxs : RI w 0 A c n xs) : Calls Tryz.prog 97 #[.slice A n c] w fun E w' => E = .returned (.bool (Sw.monOk xs)) ∧ w = w' := by
 have hl := Lib.hid hxs.1
 have hbig := Rs.big hxs
 by_cases hn : n = 5
 · subst hn
   go_enter Tryz.func97, Tryz.ntmps97
   go_wp2
   go_loop [3] (fun i => ∃ k : Nat, k ≤ 5 ∧ i = .int .i64 k ∧ xs.all (fun n => Sw.inR n 0 100000) = (xs.drop k).all (fun n => Sw.inR n 0 100000)) (fun i => 5 - (intOf i).toNat)
   case atStart => exact ⟨0, Nat.zero_le _, rfl, rfl⟩
   case round =>
     obtain ⟨k, hk, rfl, hrel⟩ := hrel
     by_cases hlt : k < 5
     · obtain ⟨g, off, y, rfl, hg0, hg, hd, hy, hc⟩ := at_I hxs hlt
       rw [hd] at hrel
       clear hd hy
       have Hrel := Lib.hid hrel; clear hrel
       cases hp : Sw.inR y 0 100000 with
       | true =>
         go_wp2_with (first | (go_at_call 99; refine (l1In_c _ _ _ _).mono ?_; rintro E w' ⟨rfl, rfl⟩))
         go_round
         case rel => exact ⟨k + 1, by omega, by go_num, by rw [Hrel.out, List.all_cons, hp, Bool.true_and]⟩
         case measure => simp [intOf]; omega
       | false =>
         go_wp2_with (first | (go_at_call 99; refine (l1In_c _ _ _ _).mono ?_; rintro E w' ⟨rfl, rfl⟩))
         go_ret
         exact ⟨ret_b (by rw [Sw.monOk, Hrel.out, List.all_cons, hp]; simp), rfl⟩
     · have Hrel := Lib.hid hrel; clear hrel
       go_wp2
       go_ret
       refine ⟨ret_b ?_, rfl⟩
       rw [Sw.monOk, Hrel.out, List.drop_of_length_le (by have := hl.out; omega), ← hl.out]
       rfl
 · have hb : decide (n = 5) = false := by simp [hn]
   go_enter Tryz.func97, Tryz.ntmps97
   go_wp2
   go_ret
   refine ⟨ret_b ?_, rfl⟩
   rw [Sw.monOk, ← hl.out, hb]
   rfl
theorem monTurn_y {xs : List Int} {who v : Int} (h : Sw.turnMay xs who v = true) : Sw.monTurn xs who v = Sw.turned xs who v := by simp [Sw.monTurn, h]
theorem monTurn_n {xs : List Int} {who v : Int} (h : Sw.turnMay xs who v = false) : Sw.monTurn xs who v = xs := by simp [Sw.monTurn, h]
theorem monOk_len {xs : List Int} (h : Sw.monOk xs = true) : xs.length = 5 := (Sw.monOk_iff.1 h).1
theorem purse_at {xs : List Int} {k : Nat} {y : Int} (h : xs[k]? = some y) : Sw.purse xs (k + 1) = y := by
 unfold Sw.purse
 rw [show ((k : Int) + 1 - 1).toNat = k from by omega, List.getD_eq_getElem?_getD, h]
 rfl
theorem sMonTurn_c (A : Option Addr) (c n : Nat) (xs : List Int) (who v : Int) (w : World) (hxs : RI w 0 A c n xs) (hn : n ≤ 4194304) : Calls Tryz.prog 229 #[.slice A n c, .int .i64 who, .int .i64 v] w fun E w' => ∃ A' c', E = .returned (.tuple #[.slice A' n c', .bool (Sw.turnMay xs who v)]) ∧ OwI w' w.heap.size A' c' n (Sw.monTurn xs who v) ∧ Ex w w' := by
 cases g1 : Sw.monOk xs
 case false =>
   have e : Sw.turnMay xs who v = false := by simp [Sw.turnMay, g1]
   rw [e, monTurn_n e]; clear e
   go_enter Tryz.func229, Tryz.ntmps229
   go_wp2_with (first | (at_builtin; apply wpList_app (lo := w.heap.size) el_I one_I rfl rfl rfl rfl; (first | assumption | exact Ow.nil _ _ | (apply Ow.keep; assumption; exact kf_) | (refine own_)); (first | (exact rd_)); omega; exact sz_; intro A1 c1 w2 ho1 hch1 hat1 hex1 hlow1; have hb := hex1 (fun _ => False) w (by exact ext_) (by exact sz_); have hz := hch1.size; (try simp only [zq_] at hz); obtain ⟨hc, hf⟩ := low_rules hlow1; clear hlow1 hex1) | (go_at_call 97; apply Calls.mono; apply sMonOk_c; (exact rd_); rintro E w' ⟨rfl, rfl⟩))
   go_ret2
   exact ⟨A1, c1, by simp, by simpa using ho1, ext_⟩
 have h5 := monOk_len g1
 have hn5 : n = 5 := by rw [hxs.1, h5]
 subst hn5
 clear h5
 cases g2 : Sw.inR who 1 5
 case false =>
   have e : Sw.turnMay xs who v = false := by simp [Sw.turnMay, g2]
   rw [e, monTurn_n e]; clear e
   go_enter Tryz.func229, Tryz.ntmps229
   go_wp2_with (first | (at_builtin; apply wpList_app (lo := w.heap.size) el_I one_I rfl rfl rfl rfl; (first | assumption | exact Ow.nil _ _ | (apply Ow.keep; assumption; exact kf_) | (refine own_)); (first | (exact rd_)); omega; exact sz_; intro A1 c1 w2 ho1 hch1 hat1 hex1 hlow1; have hb := hex1 (fun _ => False) w (by exact ext_) (by exact sz_); have hz := hch1.size; (try simp only [zq_] at hz); obtain ⟨hc, hf⟩ := low_rules hlow1; clear hlow1 hex1) | (go_at_call 97; apply Calls.mono; apply sMonOk_c; (exact rd_); rintro E w' ⟨rfl, rfl⟩) | (go_at_call 99; refine (l1In_c _ _ _ _).mono ?_; rintro E w' ⟨rfl, rfl⟩))
   go_ret2
   exact ⟨A1, c1, by simp, by simpa using ho1, ext_⟩
 cases g3 : Sw.inR v (-100000) 100000
 case false =>
   have e : Sw.turnMay xs who v = false := by simp [Sw.turnMay, g3]
   rw [e, monTurn_n e]; clear e
   go_enter Tryz.func229, Tryz.ntmps229
   go_wp2_with (first | (at_builtin; apply wpList_app (lo := w.heap.size) el_I one_I rfl rfl rfl rfl; (first | assumption | exact Ow.nil _ _ | (apply Ow.keep; assumption; exact kf_) | (refine own_)); (first | (exact rd_)); omega; exact sz_; intro A1 c1 w2 ho1 hch1 hat1 hex1 hlow1; have hb := hex1 (fun _ => False) w (by exact ext_) (by exact sz_); have hz := hch1.size; (try simp only [zq_] at hz); obtain ⟨hc, hf⟩ := low_rules hlow1; clear hlow1 hex1) | (go_at_call 97; apply Calls.mono; apply sMonOk_c; (exact rd_); rintro E w' ⟨rfl, rfl⟩) | (go_at_call 99; refine (l1In_c _ _ _ _).mono ?_; rintro E w' ⟨rfl, rfl⟩))
   go_ret2
   exact ⟨A1, c1, by simp, by simpa using ho1, ext_⟩
 have hw := Sw.inR_iff.1 g2
 have hv := Sw.inR_iff.1 g3
 obtain ⟨k, rfl⟩ : ∃ k : Nat, who = k + 1 := ⟨(who - 1).toNat, by omega⟩
 have hk : k < 5 := by omega
 obtain ⟨g, off, y, rfl, hg0, hg, hd, hy, hc0⟩ := at_I hxs hk
 have hyb : 0 ≤ y ∧ y ≤ 100000 := (Sw.monOk_iff.1 g1).2 y (List.mem_of_getElem? hy)
 have hpu := purse_at hy
 have Hpu := Lib.hid hpu
 have Hy := Lib.hid hy
 clear hd hy hpu
 obtain ⟨y0, y1⟩ := hyb
 obtain ⟨v0, v1⟩ := hv
 clear hw
 have t2 : IntKind.i64.wrap ((k : Int) + 1 - 1) = k := by rw [IntWalk.i64_in _ (by omega)]; omega
 cases g4 : Sw.inR (y + v) 0 100000
 case false =>
   have e : Sw.turnMay xs (k + 1) v = false := by simp [Sw.turnMay, Hpu.out, g4]
   rw [e, monTurn_n e]; clear e
   go_enter Tryz.func229, Tryz.ntmps229
   go_wp2_with (first | (at_builtin; apply wpList_app (lo := w.heap.size) el_I one_I rfl rfl rfl rfl; (first | assumption | exact Ow.nil _ _ | (apply Ow.keep; assumption; exact kf_) | (refine own_)); (first | (exact rd_)); omega; exact sz_; intro A1 c1 w2 ho1 hch1 hat1 hex1 hlow1; have hb := hex1 (fun _ => False) w (by exact ext_) (by exact sz_); have hz := hch1.size; (try simp only [zq_] at hz); obtain ⟨hc, hf⟩ := low_rules hlow1; clear hlow1 hex1) | (go_at_call 97; apply Calls.mono; apply sMonOk_c; (exact rd_); rintro E w' ⟨rfl, rfl⟩) | (go_at_call 99; refine (l1In_c _ _ _ _).mono ?_; rintro E w' ⟨rfl, rfl⟩))
   go_ret2
   exact ⟨A1, c1, by simp, by simpa using ho1, ext_⟩
 have e : Sw.turnMay xs (k + 1) v = true := by simp [Sw.turnMay, g1, g2, g3, Hpu.out, g4]
 rw [e, monTurn_y e]; clear e
 go_enter Tryz.func229, Tryz.ntmps229
 go_wp2_with (first | (at_builtin; apply wpList_app (lo := w.heap.size) el_I one_I rfl rfl rfl rfl; (first | assumption | exact Ow.nil _ _ | (apply Ow.keep; assumption; exact kf_) | (refine own_)); (first | (exact rd_)); omega; exact sz_; intro A1 c1 w2 ho1 hch1 hat1 hex1 hlow1; have hb := hex1 (fun _ => False) w (by exact ext_) (by exact sz_); have hz := hch1.size; (try simp only [zq_] at hz); obtain ⟨hc, hf⟩ := low_rules hlow1; clear hlow1 hex1))
 simp only [Nat.zero_add, List.nil_append] at ho1
 apply Calls.mono; apply sMonOk_c; (first | assumption | (exact rd_) | omega); rintro E w3 ⟨rfl, rfl⟩
 obtain ⟨g', x', hA, hlo, hlt, hx, hcx, hfz⟩ := at_OI ho1 hk
 obtain rfl : x' = y := by have := Hy.out; rw [hx] at this; exact Option.some.inj this
 subst hA
 clear hx
 go_wp2_with (first | (go_at_call 99; refine (l1In_c _ _ _ _).mono ?_; rintro E w' ⟨rfl, rfl⟩))
 go_ret2
 refine ⟨_, _, rfl, ?_, ext_⟩
 have r := OI_set ho1 rfl Hy.out (x' + v)
 rw [Sw.turned, Hpu.out, show ((k : Int) + 1 - 1).toNat = k from by omega]
 exact r
theorem sMonMove_c (A : Option Addr) (c n : Nat) (xs : List Int) (a b v : Int) (w : World) (hxs : RI w 0 A c n xs) (hn : n ≤ 4194304) : Calls Tryz.prog 265 #[.slice A n c, .int .i64 a, .int .i64 b, .int .i64 v] w fun E w' => ∃ A' c', E = .returned (.tuple #[.slice A' n c', .bool (Sw.moveMay xs a b v)]) ∧ OwI w' w.heap.size A' c' n (Sw.monMove xs a b v) ∧ Ex w w' := by
 cases g1 : Sw.inR v 0 100000
 case false =>
   have e : Sw.moveMay xs a b v = false := by simp [Sw.moveMay, g1]
   have e2 : Sw.monMove xs a b v = xs := by simp [Sw.monMove, e]
   rw [e, e2]; clear e e2
   go_enter Tryz.func265, Tryz.ntmps265
   go_wp2_with (first | (at_builtin; apply wpList_app (lo := w.heap.size) el_I one_I rfl rfl rfl rfl; (first | assumption | exact Ow.nil _ _ | (apply Ow.keep; assumption; exact kf_) | (refine own_)); (first | (exact rd_)); omega; exact sz_; intro A1 c1 w2 ho1 hch1 hat1 hex1 hlow1; have hb := hex1 (fun _ => False) w (by exact ext_) (by exact sz_); have hz := hch1.size; (try simp only [zq_] at hz); obtain ⟨hc, hf⟩ := low_rules hlow1; clear hlow1 hex1) | (go_at_call 99; refine (l1In_c _ _ _ _).mono ?_; rintro E w' ⟨rfl, rfl⟩))
   go_ret2
   exact ⟨A1, c1, by simp, by simpa using ho1, ext_⟩
 have hv := Sw.inR_iff.1 g1
 obtain ⟨v0, v1⟩ := hv
 by_cases g2 : a = b
 case pos =>
   have hab : (a == b) = true := by simp [g2]
   have e : Sw.moveMay xs a b v = false := by simp [Sw.moveMay, g2]
   have e2 : Sw.monMove xs a b v = xs := by simp [Sw.monMove, e]
   rw [e, e2]; clear e e2 g2
   go_enter Tryz.func265, Tryz.ntmps265
   go_wp2_with (first | (at_builtin; apply wpList_app (lo := w.heap.size) el_I one_I rfl rfl rfl rfl; (first | assumption | exact Ow.nil _ _ | (apply Ow.keep; assumption; exact kf_) | (refine own_)); (first | (exact rd_)); omega; exact sz_; intro A1 c1 w2 ho1 hch1 hat1 hex1 hlow1; have hb := hex1 (fun _ => False) w (by exact ext_) (by exact sz_); have hz := hch1.size; (try simp only [zq_] at hz); obtain ⟨hc, hf⟩ := low_rules hlow1; clear hlow1 hex1) | (go_at_call 99; refine (l1In_c _ _ _ _).mono ?_; rintro E w' ⟨rfl, rfl⟩))
   go_ret2
   exact ⟨A1, c1, by simp, by simpa using ho1, ext_⟩
 have hab : (a == b) = false := by simp [g2]
 cases g3 : Sw.turnMay xs a (-v)
 case false =>
   have e : Sw.moveMay xs a b v = false := by simp [Sw.moveMay, g3]
   have e2 : Sw.monMove xs a b v = xs := by simp [Sw.monMove, e]
   rw [e, e2]; clear e e2 g2
   go_enter Tryz.func265, Tryz.ntmps265
   go_wp2_with (first | (at_builtin; apply wpList_app (lo := w.heap.size) el_I one_I rfl rfl rfl rfl; (first | assumption | exact Ow.nil _ _ | (apply Ow.keep; assumption; exact kf_) | (refine own_)); (first | (exact rd_)); omega; exact sz_; intro A1 c1 w2 ho1 hch1 hat1 hex1 hlow1; have hb := hex1 (fun _ => False) w (by exact ext_) (by exact sz_); have hz := hch1.size; (try simp only [zq_] at hz); obtain ⟨hc, hf⟩ := low_rules hlow1; clear hlow1 hex1) | (go_at_call 99; refine (l1In_c _ _ _ _).mono ?_; rintro E w' ⟨rfl, rfl⟩) | (go_at_call 229; apply Calls.mono; apply sMonTurn_c; (first | assumption | (exact rd_) | omega); omega; rintro E w3 ⟨A3, c3, rfl, ho3, hb3⟩; have hst := Ex.rules hb3 rfl; obtain ⟨hc3, hf3, hz3⟩ := hst))
   go_ret2
   exact ⟨A1, c1, by simp, (by simpa using ho1.less (by omega)), ext_⟩
 have e3 := monTurn_y g3
 have E3 := Lib.hid e3; clear e3
 cases g4 : Sw.turnMay (Sw.turned xs a (-v)) b v
 case false =>
   have e : Sw.moveMay xs a b v = false := by simp [Sw.moveMay, g4]
   have e2 : Sw.monMove xs a b v = xs := by simp [Sw.monMove, e]
   rw [e, e2]; clear e e2 g2
   go_enter Tryz.func265, Tryz.ntmps265
   go_wp2_with (first | (at_builtin; apply wpList_app (lo := w.heap.size) el_I one_I rfl rfl rfl rfl; (first | assumption | exact Ow.nil _ _ | (apply Ow.keep; assumption; exact kf_) | (refine own_)); (first | (exact rd_)); omega; exact sz_; intro A1 c1 w2 ho1 hch1 hat1 hex1 hlow1; have hb := hex1 (fun _ => False) w (by exact ext_) (by exact sz_); have hz := hch1.size; (try simp only [zq_] at hz); obtain ⟨hc, hf⟩ := low_rules hlow1; clear hlow1 hex1) | (go_at_call 99; refine (l1In_c _ _ _ _).mono ?_; rintro E w' ⟨rfl, rfl⟩) | (go_at_call 229; apply Calls.mono; apply (sMonTurn_c (xs := Sw.turned xs a (-v))); (first | assumption | (exact rd_) | omega); omega; rintro E w4 ⟨A4, c4, rfl, ho4, hb4⟩; have hst := Ex.rules hb4 rfl; obtain ⟨hc4, hf4, hz4⟩ := hst) | (go_at_call 229; apply Calls.mono; apply (sMonTurn_c (xs := xs)); (first | assumption | (exact rd_) | omega); omega; rintro E w3 ⟨A3, c3, rfl, ho3, hb3⟩; rw [E3.out] at ho3; have hst := Ex.rules hb3 rfl; obtain ⟨hc3, hf3, hz3⟩ := hst))
   go_ret2
   exact ⟨A1, c1, by simp, (by simpa using ho1.less (by omega)), ext_⟩
 have e : Sw.moveMay xs a b v = true := by simp [Sw.moveMay, g1, g2, g3, g4]
 have e2 : Sw.monMove xs a b v = Sw.turned (Sw.turned xs a (-v)) b v := by simp [Sw.monMove, e]
 have e4 := monTurn_y g4
 have E4 := Lib.hid e4; clear e4
 rw [e, e2]; clear e e2 g2
 go_enter Tryz.func265, Tryz.ntmps265
 go_wp2_with (first | (go_at_call 99; refine (l1In_c _ _ _ _).mono ?_; rintro E w' ⟨rfl, rfl⟩) | (go_at_call 229; apply Calls.mono; apply (sMonTurn_c (xs := Sw.turned xs a (-v))); (first | assumption | (exact rd_) | omega); omega; rintro E w4 ⟨A4, c4, rfl, ho4, hb4⟩; rw [E4.out] at ho4; have hst := Ex.rules hb4 rfl; obtain ⟨hc4, hf4, hz4⟩ := hst) | (go_at_call 229; apply Calls.mono; apply (sMonTurn_c (xs := xs)); (first | assumption | (exact rd_) | omega); omega; rintro E w3 ⟨A3, c3, rfl, ho3, hb3⟩; rw [E3.out] at ho3; have hst := Ex.rules hb3 rfl; obtain ⟨hc3, hf3, hz3⟩ := hst))
 go_ret2
 exact ⟨A4, c4, rfl, ho4.less (by omega), ext_⟩
set_option maxHeartbeats 400000
theorem sumFrom_cons (s x : Int) (xs : List Int) : Sw.sumFrom s (x :: xs) = Sw.sumFrom (wrap64 (s + x)) xs := rfl
theorem heldFrom_cons (s : Int) (d : Sw.Deal) (ds : List Sw.Deal) : Sw.heldFrom s (d :: ds) = Sw.heldFrom (Sw.heldStep s d) ds := rfl
theorem heldStep_y {s : Int} {d : Sw.Deal} (h : 0 < d.buyer) : Sw.heldStep s d = wrap64 (s + d.price) := by simp [Sw.heldStep, Sw.held, h]
theorem heldStep_n {s : Int} {d : Sw.Deal} (h : ¬ 0 < d.buyer) : Sw.heldStep s d = s := by simp [Sw.heldStep, Sw.held, h]
theorem sMonSum_c (A : Option Addr) (c n : Nat) (xs : List Int) (w : World) (hxs : RI w 0 A c n xs) : Calls Tryz.prog 104 #[.slice A n c] w fun E w' => E = .returned (.int .i64 (Sw.monSum xs)) ∧ w = w' := by
 have hl := Lib.hid hxs.1
 have hbig := Rs.big hxs
 go_enter Tryz.func104, Tryz.ntmps104
 go_wp2
 go_loop [3, 4] (fun v i => ∃ (k : Nat) (s : Int), k ≤ n ∧ i = .int .i64 k ∧ v = .int .i64 s ∧ Sw.monSum xs = Sw.sumFrom s (xs.drop k)) (fun _ i => n - (intOf i).toNat)
 case atStart => exact ⟨0, 0, Nat.zero_le _, rfl, rfl, rfl⟩
 case round =>
   obtain ⟨k, s, hk, rfl, rfl, hrel⟩ := hrel
   by_cases hlt : k < n
   · obtain ⟨g, off, y, rfl, hg0, hg, hd, hy, hc⟩ := at_I hxs hlt
     rw [hd, sumFrom_cons] at hrel
     have Hrel := Lib.hid hrel; clear hrel hd hy
     go_wp2
     go_round
     case rel => exact ⟨k + 1, _, by omega, by go_num, rfl, Hrel.out⟩
     case measure => simp [intOf]; omega
   · have Hrel := Lib.hid hrel; clear hrel
     go_wp2
     go_ret
     refine ⟨ret_i ?_, rfl⟩
     rw [Hrel.out, List.drop_of_length_le (by have := hl.out; omega)]
     rfl
theorem iMonSum_c (A : Option Addr) (c n : Nat) (xs : List Int) (w : World) (hxs : RI w 0 A c n xs) : Calls Tryz.prog 37 #[.slice A n c] w fun E w' => E = .returned (.int .i64 (Sw.monSum xs)) ∧ w = w' := by
 have hl := Lib.hid hxs.1
 have hbig := Rs.big hxs
 go_enter Tryz.func37, Tryz.ntmps37
 go_wp2
 go_loop [3, 8] (fun v i => ∃ (k : Nat) (s : Int), k ≤ n ∧ i = .int .i64 k ∧ v = .int .i64 s ∧ Sw.monSum xs = Sw.sumFrom s (xs.drop k)) (fun _ i => n - (intOf i).toNat)
 case atStart => exact ⟨0, 0, Nat.zero_le _, rfl, rfl, rfl⟩
 case round =>
   obtain ⟨k, s, hk, rfl, rfl, hrel⟩ := hrel
   by_cases hlt : k < n
   · obtain ⟨g, off, y, rfl, hg0, hg, hd, hy, hc⟩ := at_I hxs hlt
     rw [hd, sumFrom_cons] at hrel
     have Hrel := Lib.hid hrel; clear hrel hd hy
     go_wp2
     go_round
     case rel => exact ⟨k + 1, _, by omega, by go_num, rfl, Hrel.out⟩
     case measure => simp [intOf]; omega
   · have Hrel := Lib.hid hrel; clear hrel
     go_wp2
     go_ret
     refine ⟨ret_i ?_, rfl⟩
     rw [Hrel.out, List.drop_of_length_le (by have := hl.out; omega)]
     rfl
theorem iHeld_c (d : Sw.Deal) (w : World) : Calls Tryz.prog 106 #[.agg #[.int .i64 d.ticket, .int .i64 d.seller, .int .i64 d.price, .int .i64 d.buyer, .int .i64 d.due]] w fun E w' => E = .returned (.bool (Sw.held d)) ∧ Ex w w' := by
 go_enter Tryz.func106, Tryz.ntmps106
 go_wp2_with fail
 go_ret
 exact ⟨rfl, ext_⟩
theorem sMktHeld_c (aL : Option Addr) (aLc aLn : Nat) (aP : Option Addr) (aPc aPn : Nat) (aD : Option Addr) (aDc aDn : Nat) (aN : Option Addr) (aNc aNn : Nat) (aS : Option Addr) (aSc aSn : Nat) (m : Sw.Mkt) (w : World) (hm : RM w 0 aL aLc aLn aP aPc aPn aD aDc aDn aN aNc aNn aS aSc aSn m) : Calls Tryz.prog 105 #[.agg #[.slice aL aLn aLc, .slice aP aPn aPc, .slice aD aDn aDc, .int .i64 m.clock, .slice aN aNn aNc, .slice aS aSn aSc]] w fun E w' => E = .returned (.int .i64 (Sw.mktHeld m)) ∧ Ex w w' := by
 have hxs := hm.deals
 clear hm
 have hl := Lib.hid hxs.1
 have hbig := Rs.big hxs
 go_enter Tryz.func105, Tryz.ntmps105
 go_wp2_with fail
 go_loop [3, 4] (fun v i => ∃ (k : Nat) (s : Int), k ≤ aDn ∧ i = .int .i64 k ∧ v = .int .i64 s ∧ Sw.mktHeld m = Sw.heldFrom s (m.deals.drop k)) (fun _ i => aDn - (intOf i).toNat)
 case atStart => exact ⟨0, 0, Nat.zero_le _, rfl, rfl, rfl⟩
 case round =>
   obtain ⟨k, s, hk, rfl, rfl, hrel⟩ := hrel
   by_cases hlt : k < aDn
   · obtain ⟨g, off, y, rfl, hg0, hg, hd, hy, q0, q1, q2, q3, q4⟩ := at_D hxs hlt
     rw [hd, heldFrom_cons] at hrel
     have Hrel := Lib.hid hrel; clear hrel hd hy
     by_cases hb : 0 < y.buyer
     · go_wp2
       go_round
       case rel => exact ⟨k + 1, _, by omega, by go_num, rfl, by rw [Hrel.out, heldStep_y hb]⟩
       case measure => simp [intOf]; omega
     · go_wp2
       go_round
       case rel => exact ⟨k + 1, _, by omega, by go_num, rfl, by rw [Hrel.out, heldStep_n hb]⟩
       case measure => simp [intOf]; omega
   · have Hrel := Lib.hid hrel; clear hrel
     go_wp2
     go_ret
     refine ⟨ret_i ?_, ext_⟩
     rw [Hrel.out, List.drop_of_length_le (by have := hl.out; omega)]
     rfl
theorem iMktHeld_c (aL : Option Addr) (aLc aLn : Nat) (aP : Option Addr) (aPc aPn : Nat) (aD : Option Addr) (aDc aDn : Nat) (aN : Option Addr) (aNc aNn : Nat) (aS : Option Addr) (aSc aSn : Nat) (m : Sw.Mkt) (w : World) (hm : RM w 0 aL aLc aLn aP aPc aPn aD aDc aDn aN aNc aNn aS aSc aSn m) : Calls Tryz.prog 38 #[.agg #[.slice aL aLn aLc, .slice aP aPn aPc, .slice aD aDn aDc, .int .i64 m.clock, .slice aN aNn aNc, .slice aS aSn aSc]] w fun E w' => E = .returned (.int .i64 (Sw.mktHeld m)) ∧ Ex w w' := by
 have hxs := hm.deals
 clear hm
 have hl := Lib.hid hxs.1
 have hbig := Rs.big hxs
 go_enter Tryz.func38, Tryz.ntmps38
 go_wp2_with fail
 go_loopw [3, 9] (fun v i wr => ∃ (k : Nat) (s : Int), k ≤ aDn ∧ i = .int .i64 k ∧ v = .int .i64 s ∧ Ex w wr ∧ Sw.mktHeld m = Sw.heldFrom s (m.deals.drop k)) (fun _ i _ => aDn - (intOf i).toNat)
 case atStart => exact ⟨0, 0, Nat.zero_le _, rfl, rfl, ext_, rfl⟩
 case round =>
   obtain ⟨k, s, hk, rfl, rfl, hb2, hrel⟩ := hrel
   have hst := Ex.rules hb2 rfl
   obtain ⟨hc2, hf2, hz2⟩ := hst
   by_cases hlt : k < aDn
   · obtain ⟨g, off, y, rfl, hg0, hg, hd, hy, q0, q1, q2, q3, q4⟩ := at_D hxs hlt
     rw [hd, heldFrom_cons] at hrel
     have Hrel := Lib.hid hrel; clear hrel hd hy
     cases hb : Sw.held y with
     | true =>
       go_wp2_with (go_at_call 106; apply Calls.mono; apply (iHeld_c y); rintro E w1 ⟨rfl, hb⟩; obtain ⟨hc, hf, hz⟩ := xy hb)
       go_roundw
       case rel => exact ⟨k + 1, _, by omega, by go_num, rfl, ext_, by rw [Hrel.out, Sw.heldStep, if_pos (by assumption)]⟩
       case measure => simp [intOf]; omega
     | false =>
       go_wp2_with (go_at_call 106; apply Calls.mono; apply (iHeld_c y); rintro E w1 ⟨rfl, hb⟩; obtain ⟨hc, hf, hz⟩ := xy hb)
       go_roundw
       case rel => exact ⟨k + 1, _, by omega, by go_num, rfl, ext_, by rw [Hrel.out, Sw.heldStep, if_neg (by simp [*])]⟩
       case measure => simp [intOf]; omega
   · have Hrel := Lib.hid hrel; clear hrel
     go_wp2_with fail
     go_ret
     refine ⟨ret_i ?_, ext_⟩
     rw [Hrel.out, List.drop_of_length_le (by have := hl.out; omega)]
     rfl
set_option maxHeartbeats 400000
theorem sGatOk_c (t : Sw.Head) (A : Option Addr) (c n : Nat) (xs : List Int) (w : World) (hxs : RI w 0 A c n xs) : Calls Tryz.prog 98 #[.agg #[.int .i64 t.size, .int .i64 t.log, .int .i64 t.own, .slice A n c]] w fun E w' => E = .returned (.bool (Sw.gatOk ⟨t, xs⟩)) ∧ Ex w w' := by
 have hl := Lib.hid hxs.1
 have hcap := hxs.2.le
 have hbig : n ≤ 9223372036854775807 := by have := hxs.2.cap; unfold maxLen at this; omega
 cases g1 : Sw.hedOk t
 case false =>
   go_enter Tryz.func98, Tryz.ntmps98; go_wp2_with (first | (go_at_call 100; refine (sHedOk_c _ _).mono ?_; rintro E w1 ⟨rfl, hb⟩; obtain ⟨hc, hf, hz⟩ := xy hb)); go_ret; exact ⟨ret_b (by simp [Sw.gatOk, g1]), ext_⟩
 by_cases hn : n ≤ 8
 case neg =>
   have hb8 : decide (8 < n) = true := by simp; omega
   have e : Sw.gatOk ⟨t, xs⟩ = false := by
     cases hr : Sw.risesFrom (-1) xs with
     | true => have := rises_len xs (-1) hr (by omega) (by omega); have := hl.out; omega
     | false => simp [Sw.gatOk, hr]
   rw [e]; clear e
   go_enter Tryz.func98, Tryz.ntmps98; go_wp2_with (first | (go_at_call 100; refine (sHedOk_c _ _).mono ?_; rintro E w1 ⟨rfl, hb⟩; obtain ⟨hc, hf, hz⟩ := xy hb)); go_ret; exact ⟨rfl, ext_⟩
 have hb8 : decide (8 < n) = false := by simp; omega
 have e : Sw.gatOk ⟨t, xs⟩ = Sw.risesFrom (-1) xs := by simp [Sw.gatOk, g1]
 rw [e]; clear e
 go_enter Tryz.func98, Tryz.ntmps98
 go_wp2_with (first | (go_at_call 100; refine (sHedOk_c _ _).mono ?_; rintro E w1 ⟨rfl, hb⟩; obtain ⟨hc, hf, hz⟩ := xy hb))
 go_loopw [3] (fun i wr => ∃ (k : Nat) (p : Int), k ≤ n ∧ i = .int .i64 k ∧ Ex w1 wr ∧ (k = 0 ∧ p = -1 ∨ ∃ j, k = j + 1 ∧ xs[j]? = some p ∧ 0 ≤ p) ∧ Sw.risesFrom (-1) xs = Sw.risesFrom p (xs.drop k)) (fun i _ => n - (intOf i).toNat)
 case atStart => exact ⟨0, -1, Nat.zero_le _, rfl, Ch.refl _ _, .inl ⟨rfl, rfl⟩, rfl⟩
 case round =>
   obtain ⟨k, p, hk, rfl, hb2, hp, hrel⟩ := hrel
   have hst := Ex.rules hb2 rfl
   obtain ⟨hc2, hf2, hz2⟩ := hst
   by_cases hlt : k < n
   · obtain ⟨g, off, y, rfl, hg0, hg, hd, hy, hcy⟩ := at_I hxs hlt
     rw [hd, Sw.risesFrom] at hrel
     have Hrel := Lib.hid hrel
     have Hy := Lib.hid hy
     clear hd hy hrel
     cases hin : Sw.inR y 0 7
     case false =>
       go_wp2_with fail
       go_quiet ((first | (go_at_call 99; exact Calls.quiet_same (l1In_c _ _ _ _))))
       go_wp2
       go_ret
       exact ⟨ret_b (by rw [Hrel.out, hin]; rfl), ext_⟩
     have hy7 : 0 ≤ y ∧ y ≤ 7 := by simpa [Sw.inR] using hin
     obtain ⟨y0, y7⟩ := hy7
     rcases hp with ⟨rfl, rfl⟩ | ⟨j, rfl, hj, hj0⟩
     · simp only [Nat.add_zero] at hcy
       go_wp2_with fail
       go_quiet ((first | (go_at_call 99; exact Calls.quiet_same (l1In_c _ _ _ _))))
       go_wp2
       go_roundw
       case rel => exact ⟨0 + 1, y, by omega, by go_num, ext_, .inr ⟨0, rfl, Hy.out, y0⟩, by rw [Hrel.out, hin]; simp; omega⟩
       case measure => simp [intOf]; omega
     · obtain ⟨g', off', p', hA', _, _, _, hp', hcp⟩ := at_I hxs (show j < n by omega)
       cases hA'
       obtain rfl : p' = p := by rw [hj] at hp'; exact (Option.some.inj hp').symm
       clear hj hp'
       have t1 : ((j : Int) + 1).toNat = j + 1 := by omega
       have t2 : IntKind.i64.wrap ((j : Int) + 1 - 1) = j := by rw [IntWalk.i64_in _ (by omega)]; omega
       have t3 : (0 : Int) ≤ (j : Int) + 1 := by omega
       have t4 : (j : Int) + 1 < (n : Int) := by omega
       have t5 : (j : Int) < (n : Int) := by omega
       by_cases hpy : p' < y
       · go_wp2_with fail
         go_quiet ((first | (go_at_call 99; exact Calls.quiet_same (l1In_c _ _ _ _))))
         go_wp2
         go_roundw
         case rel => exact ⟨j + 1 + 1, y, by omega, by go_num, ext_, .inr ⟨j + 1, rfl, Hy.out, y0⟩, by rw [Hrel.out, hin]; simp [hpy]⟩
         case measure => simp [intOf]; omega
       · have hpy' : y ≤ p' := by omega
         go_wp2_with fail
         go_quiet ((first | (go_at_call 99; exact Calls.quiet_same (l1In_c _ _ _ _))))
         go_wp2
         go_ret
         have hlt' : decide (p' < y) = false := by rw [decide_eq_false_iff_not]; omega
         exact ⟨ret_b (by rw [Hrel.out, hin, hlt']; rfl), ext_⟩
   · have Hrel := Lib.hid hrel; clear hrel hp
     go_wp2_with fail
     go_ret
     refine ⟨ret_b ?_, ext_⟩
     have hh := Hrel.out
     rw [List.drop_of_length_le (by have := hl.out; omega)] at hh
     rw [hh]; rfl
end Go.Proofs.YtnnoiagommiapaaGreat
