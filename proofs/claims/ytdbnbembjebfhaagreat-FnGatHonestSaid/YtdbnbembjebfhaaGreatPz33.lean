/-
  Texts joined: Mon2.
-/
import Derived.Test.YtdbnbembjebfhaaGreatPz14
import Derived.Test.YtdbnbembjebfhaaGreatPz8
namespace Go.Proofs.YtdbnbembjebfhaaGreat
set_option maxRecDepth 100000
set_option linter.unusedSimpArgs false
set_option linter.unusedVariables false
open Go.RowKit Go
set_option maxHeartbeats 400000

theorem sMonOk_c (A : Option Addr) (c n : Nat) (xs : List Int) (w : World) (hxs : RI w 0 A c n xs) : Calls Tryz.prog 132 #[.slice A n c] w fun E w' => E = .returned (.bool (Sw.monOk xs)) ∧ w = w' := by
  have hl := Lib.hid hxs.1
  have hbig := Rs.big hxs
  by_cases hn : n = 5
  · subst hn
    go_enter Tryz.func132, Tryz.ntmps132
    go_wp2
    go_loop [3] (fun i => ∃ k : Nat, k ≤ 5 ∧ i = .int .i64 k ∧ xs.all (fun n => Sw.inR n 0 100000) = (xs.drop k).all (fun n => Sw.inR n 0 100000)) (fun i => 5 - (intOf i).toNat)
    case atStart => exact ⟨0, Nat.zero_le _, rfl, rfl⟩
    case round =>
      obtain ⟨k, hk, rfl, hrel⟩ := hrel
      by_cases hlt : k < 5
      · obtain ⟨g, off, y, rfl, hg0, hg, hd, hy, hc⟩ := at_I hxs hlt
        rw [hd] at hrel
        clear hd hy
        have Hrel := Lib.hid hrel; clear hrel
        cases hp : Sw.inR y 0 100000 with
        | true =>
          go_wp2_with (first | (go_at_call 107; refine (l1In_c _ _ _ _).mono ?_; rintro E w' ⟨rfl, rfl⟩))
          go_round
          case rel => exact ⟨k + 1, by omega, by go_num, by rw [Hrel.out, List.all_cons, hp, Bool.true_and]⟩
          case measure => simp [intOf]; omega
        | false =>
          go_wp2_with (first | (go_at_call 107; refine (l1In_c _ _ _ _).mono ?_; rintro E w' ⟨rfl, rfl⟩))
          go_ret
          exact ⟨ret_b (by rw [Sw.monOk, Hrel.out, List.all_cons, hp]; simp), rfl⟩
      · have Hrel := Lib.hid hrel; clear hrel
        go_wp2
        go_ret
        refine ⟨ret_b ?_, rfl⟩
        rw [Sw.monOk, Hrel.out, List.drop_of_length_le (by have := hl.out; omega), ← hl.out]
        rfl
  · have hb : decide (n = 5) = false := by simp [hn]
    go_enter Tryz.func132, Tryz.ntmps132
    go_wp2
    go_ret
    refine ⟨ret_b ?_, rfl⟩
    rw [Sw.monOk, ← hl.out, hb]
    rfl

theorem monTurn_y {xs : List Int} {who v : Int} (h : Sw.turnMay xs who v = true) : Sw.monTurn xs who v = Sw.turned xs who v := by simp [Sw.monTurn, h]
theorem monTurn_n {xs : List Int} {who v : Int} (h : Sw.turnMay xs who v = false) : Sw.monTurn xs who v = xs := by simp [Sw.monTurn, h]
theorem monOk_len {xs : List Int} (h : Sw.monOk xs = true) : xs.length = 5 := (Sw.monOk_iff.1 h).1
theorem purse_at {xs : List Int} {k : Nat} {y : Int} (h : xs[k]? = some y) : Sw.purse xs (k + 1) = y := by
  unfold Sw.purse
  rw [show ((k : Int) + 1 - 1).toNat = k from by omega, List.getD_eq_getElem?_getD, h]
  rfl

theorem sMonTurn_c (A : Option Addr) (c n : Nat) (xs : List Int) (who v : Int) (w : World) (hxs : RI w 0 A c n xs) (hn : n ≤ 4194304) : Calls Tryz.prog 239 #[.slice A n c, .int .i64 who, .int .i64 v] w fun E w' => ∃ A' c', E = .returned (.tuple #[.slice A' n c', .bool (Sw.turnMay xs who v)]) ∧ OwI w' w.heap.size A' c' n (Sw.monTurn xs who v) ∧ Ex w w' := by
  cases g1 : Sw.monOk xs
  case false =>
    have e : Sw.turnMay xs who v = false := by simp [Sw.turnMay, g1]
    rw [e, monTurn_n e]; clear e
    go_enter Tryz.func239, Tryz.ntmps239
    go_wp2_with (first | (at_builtin; apply wpList_app (lo := w.heap.size) el_I one_I rfl rfl rfl rfl; (first | assumption | exact Ow.nil _ _ | (apply Ow.keep; assumption; exact kf_) | (refine Ow.new [] (by (first | rfl | (simp only [zA, zC, zD, zN]; done) | omega)) rfl rfl (fun _ => rfl) (by exact sz_) (by omega))); (first | ((first | (apply Rs.at0; assumption) | (apply Ow.rs0; assumption)); exact kf_)); omega; exact sz_; intro A1 c1 w2 ho1 hch1 hat1 hex1 hlow1; have hb := hex1 (fun _ => False) w (by exact ext_) (by exact sz_); have hz := hch1.size; (try simp only [zA, zC, zD, zN] at hz); obtain ⟨hc, hf⟩ := low_rules hlow1; clear hlow1 hex1) | (go_at_call 132; apply Calls.mono; apply sMonOk_c; ((first | (apply Rs.at0; assumption) | (apply Ow.rs0; assumption)); exact kf_); rintro E w' ⟨rfl, rfl⟩))
    go_ret2
    exact ⟨A1, c1, by simp, by simpa using ho1, ext_⟩
  have h5 := monOk_len g1
  have hn5 : n = 5 := by rw [hxs.1, h5]
  subst hn5
  clear h5
  cases g2 : Sw.inR who 1 5
  case false =>
    have e : Sw.turnMay xs who v = false := by simp [Sw.turnMay, g2]
    rw [e, monTurn_n e]; clear e
    go_enter Tryz.func239, Tryz.ntmps239
    go_wp2_with (first | (at_builtin; apply wpList_app (lo := w.heap.size) el_I one_I rfl rfl rfl rfl; (first | assumption | exact Ow.nil _ _ | (apply Ow.keep; assumption; exact kf_) | (refine Ow.new [] (by (first | rfl | (simp only [zA, zC, zD, zN]; done) | omega)) rfl rfl (fun _ => rfl) (by exact sz_) (by omega))); (first | ((first | (apply Rs.at0; assumption) | (apply Ow.rs0; assumption)); exact kf_)); omega; exact sz_; intro A1 c1 w2 ho1 hch1 hat1 hex1 hlow1; have hb := hex1 (fun _ => False) w (by exact ext_) (by exact sz_); have hz := hch1.size; (try simp only [zA, zC, zD, zN] at hz); obtain ⟨hc, hf⟩ := low_rules hlow1; clear hlow1 hex1) | (go_at_call 132; apply Calls.mono; apply sMonOk_c; ((first | (apply Rs.at0; assumption) | (apply Ow.rs0; assumption)); exact kf_); rintro E w' ⟨rfl, rfl⟩) | (go_at_call 107; refine (l1In_c _ _ _ _).mono ?_; rintro E w' ⟨rfl, rfl⟩))
    go_ret2
    exact ⟨A1, c1, by simp, by simpa using ho1, ext_⟩
  cases g3 : Sw.inR v (-100000) 100000
  case false =>
    have e : Sw.turnMay xs who v = false := by simp [Sw.turnMay, g3]
    rw [e, monTurn_n e]; clear e
    go_enter Tryz.func239, Tryz.ntmps239
    go_wp2_with (first | (at_builtin; apply wpList_app (lo := w.heap.size) el_I one_I rfl rfl rfl rfl; (first | assumption | exact Ow.nil _ _ | (apply Ow.keep; assumption; exact kf_) | (refine Ow.new [] (by (first | rfl | (simp only [zA, zC, zD, zN]; done) | omega)) rfl rfl (fun _ => rfl) (by exact sz_) (by omega))); (first | ((first | (apply Rs.at0; assumption) | (apply Ow.rs0; assumption)); exact kf_)); omega; exact sz_; intro A1 c1 w2 ho1 hch1 hat1 hex1 hlow1; have hb := hex1 (fun _ => False) w (by exact ext_) (by exact sz_); have hz := hch1.size; (try simp only [zA, zC, zD, zN] at hz); obtain ⟨hc, hf⟩ := low_rules hlow1; clear hlow1 hex1) | (go_at_call 132; apply Calls.mono; apply sMonOk_c; ((first | (apply Rs.at0; assumption) | (apply Ow.rs0; assumption)); exact kf_); rintro E w' ⟨rfl, rfl⟩) | (go_at_call 107; refine (l1In_c _ _ _ _).mono ?_; rintro E w' ⟨rfl, rfl⟩))
    go_ret2
    exact ⟨A1, c1, by simp, by simpa using ho1, ext_⟩
  have hw := Sw.inR_iff.1 g2
  have hv := Sw.inR_iff.1 g3
  obtain ⟨k, rfl⟩ : ∃ k : Nat, who = k + 1 := ⟨(who - 1).toNat, by omega⟩
  have hk : k < 5 := by omega
  obtain ⟨g, off, y, rfl, hg0, hg, hd, hy, hc0⟩ := at_I hxs hk
  have hyb : 0 ≤ y ∧ y ≤ 100000 := (Sw.monOk_iff.1 g1).2 y (List.mem_of_getElem? hy)
  have hpu := purse_at hy
  have Hpu := Lib.hid hpu
  have Hy := Lib.hid hy
  clear hd hy hpu
  obtain ⟨y0, y1⟩ := hyb
  obtain ⟨v0, v1⟩ := hv
  clear hw
  have t2 : IntKind.i64.wrap ((k : Int) + 1 - 1) = k := by rw [IntWalk.i64_in _ (by omega)]; omega
  cases g4 : Sw.inR (y + v) 0 100000
  case false =>
    have e : Sw.turnMay xs (k + 1) v = false := by simp [Sw.turnMay, Hpu.out, g4]
    rw [e, monTurn_n e]; clear e
    go_enter Tryz.func239, Tryz.ntmps239
    go_wp2_with (first | (at_builtin; apply wpList_app (lo := w.heap.size) el_I one_I rfl rfl rfl rfl; (first | assumption | exact Ow.nil _ _ | (apply Ow.keep; assumption; exact kf_) | (refine Ow.new [] (by (first | rfl | (simp only [zA, zC, zD, zN]; done) | omega)) rfl rfl (fun _ => rfl) (by exact sz_) (by omega))); (first | ((first | (apply Rs.at0; assumption) | (apply Ow.rs0; assumption)); exact kf_)); omega; exact sz_; intro A1 c1 w2 ho1 hch1 hat1 hex1 hlow1; have hb := hex1 (fun _ => False) w (by exact ext_) (by exact sz_); have hz := hch1.size; (try simp only [zA, zC, zD, zN] at hz); obtain ⟨hc, hf⟩ := low_rules hlow1; clear hlow1 hex1) | (go_at_call 132; apply Calls.mono; apply sMonOk_c; ((first | (apply Rs.at0; assumption) | (apply Ow.rs0; assumption)); exact kf_); rintro E w' ⟨rfl, rfl⟩) | (go_at_call 107; refine (l1In_c _ _ _ _).mono ?_; rintro E w' ⟨rfl, rfl⟩))
    go_ret2
    exact ⟨A1, c1, by simp, by simpa using ho1, ext_⟩
  have e : Sw.turnMay xs (k + 1) v = true := by simp [Sw.turnMay, g1, g2, g3, Hpu.out, g4]
  rw [e, monTurn_y e]; clear e
  go_enter Tryz.func239, Tryz.ntmps239
  go_wp2_with (first | (at_builtin; apply wpList_app (lo := w.heap.size) el_I one_I rfl rfl rfl rfl; (first | assumption | exact Ow.nil _ _ | (apply Ow.keep; assumption; exact kf_) | (refine Ow.new [] (by (first | rfl | (simp only [zA, zC, zD, zN]; done) | omega)) rfl rfl (fun _ => rfl) (by exact sz_) (by omega))); (first | ((first | (apply Rs.at0; assumption) | (apply Ow.rs0; assumption)); exact kf_)); omega; exact sz_; intro A1 c1 w2 ho1 hch1 hat1 hex1 hlow1; have hb := hex1 (fun _ => False) w (by exact ext_) (by exact sz_); have hz := hch1.size; (try simp only [zA, zC, zD, zN] at hz); obtain ⟨hc, hf⟩ := low_rules hlow1; clear hlow1 hex1))
  simp only [Nat.zero_add, List.nil_append] at ho1
  apply Calls.mono; apply sMonOk_c; (first | assumption | ((first | (apply Rs.at0; assumption) | (apply Ow.rs0; assumption)); exact kf_) | omega); rintro E w3 ⟨rfl, rfl⟩
  obtain ⟨g', x', hA, hlo, hlt, hx, hcx, hfz⟩ := at_OI ho1 hk
  obtain rfl : x' = y := by have := Hy.out; rw [hx] at this; exact Option.some.inj this
  subst hA
  clear hx
  go_wp2_with (first | (go_at_call 107; refine (l1In_c _ _ _ _).mono ?_; rintro E w' ⟨rfl, rfl⟩))
  go_ret2
  refine ⟨_, _, rfl, ?_, ext_⟩
  have r := OI_set ho1 rfl Hy.out (x' + v)
  rw [Sw.turned, Hpu.out, show ((k : Int) + 1 - 1).toNat = k from by omega]
  exact r

theorem sMonMove_c (A : Option Addr) (c n : Nat) (xs : List Int) (a b v : Int) (w : World) (hxs : RI w 0 A c n xs) (hn : n ≤ 4194304) : Calls Tryz.prog 265 #[.slice A n c, .int .i64 a, .int .i64 b, .int .i64 v] w fun E w' => ∃ A' c', E = .returned (.tuple #[.slice A' n c', .bool (Sw.moveMay xs a b v)]) ∧ OwI w' w.heap.size A' c' n (Sw.monMove xs a b v) ∧ Ex w w' := by
  cases g1 : Sw.inR v 0 100000
  case false =>
    have e : Sw.moveMay xs a b v = false := by simp [Sw.moveMay, g1]
    have e2 : Sw.monMove xs a b v = xs := by simp [Sw.monMove, e]
    rw [e, e2]; clear e e2
    go_enter Tryz.func265, Tryz.ntmps265
    go_wp2_with (first | (at_builtin; apply wpList_app (lo := w.heap.size) el_I one_I rfl rfl rfl rfl; (first | assumption | exact Ow.nil _ _ | (apply Ow.keep; assumption; exact kf_) | (refine Ow.new [] (by (first | rfl | (simp only [zA, zC, zD, zN]; done) | omega)) rfl rfl (fun _ => rfl) (by exact sz_) (by omega))); (first | ((first | (apply Rs.at0; assumption) | (apply Ow.rs0; assumption)); exact kf_)); omega; exact sz_; intro A1 c1 w2 ho1 hch1 hat1 hex1 hlow1; have hb := hex1 (fun _ => False) w (by exact ext_) (by exact sz_); have hz := hch1.size; (try simp only [zA, zC, zD, zN] at hz); obtain ⟨hc, hf⟩ := low_rules hlow1; clear hlow1 hex1) | (go_at_call 107; refine (l1In_c _ _ _ _).mono ?_; rintro E w' ⟨rfl, rfl⟩))
    go_ret2
    exact ⟨A1, c1, by simp, by simpa using ho1, ext_⟩
  have hv := Sw.inR_iff.1 g1
  obtain ⟨v0, v1⟩ := hv
  by_cases g2 : a = b
  case pos =>
    have hab : (a == b) = true := by simp [g2]
    have e : Sw.moveMay xs a b v = false := by simp [Sw.moveMay, g2]
    have e2 : Sw.monMove xs a b v = xs := by simp [Sw.monMove, e]
    rw [e, e2]; clear e e2 g2
    go_enter Tryz.func265, Tryz.ntmps265
    go_wp2_with (first | (at_builtin; apply wpList_app (lo := w.heap.size) el_I one_I rfl rfl rfl rfl; (first | assumption | exact Ow.nil _ _ | (apply Ow.keep; assumption; exact kf_) | (refine Ow.new [] (by (first | rfl | (simp only [zA, zC, zD, zN]; done) | omega)) rfl rfl (fun _ => rfl) (by exact sz_) (by omega))); (first | ((first | (apply Rs.at0; assumption) | (apply Ow.rs0; assumption)); exact kf_)); omega; exact sz_; intro A1 c1 w2 ho1 hch1 hat1 hex1 hlow1; have hb := hex1 (fun _ => False) w (by exact ext_) (by exact sz_); have hz := hch1.size; (try simp only [zA, zC, zD, zN] at hz); obtain ⟨hc, hf⟩ := low_rules hlow1; clear hlow1 hex1) | (go_at_call 107; refine (l1In_c _ _ _ _).mono ?_; rintro E w' ⟨rfl, rfl⟩))
    go_ret2
    exact ⟨A1, c1, by simp, by simpa using ho1, ext_⟩
  have hab : (a == b) = false := by simp [g2]
  cases g3 : Sw.turnMay xs a (-v)
  case false =>
    have e : Sw.moveMay xs a b v = false := by simp [Sw.moveMay, g3]
    have e2 : Sw.monMove xs a b v = xs := by simp [Sw.monMove, e]
    rw [e, e2]; clear e e2 g2
    go_enter Tryz.func265, Tryz.ntmps265
    go_wp2_with (first | (at_builtin; apply wpList_app (lo := w.heap.size) el_I one_I rfl rfl rfl rfl; (first | assumption | exact Ow.nil _ _ | (apply Ow.keep; assumption; exact kf_) | (refine Ow.new [] (by (first | rfl | (simp only [zA, zC, zD, zN]; done) | omega)) rfl rfl (fun _ => rfl) (by exact sz_) (by omega))); (first | ((first | (apply Rs.at0; assumption) | (apply Ow.rs0; assumption)); exact kf_)); omega; exact sz_; intro A1 c1 w2 ho1 hch1 hat1 hex1 hlow1; have hb := hex1 (fun _ => False) w (by exact ext_) (by exact sz_); have hz := hch1.size; (try simp only [zA, zC, zD, zN] at hz); obtain ⟨hc, hf⟩ := low_rules hlow1; clear hlow1 hex1) | (go_at_call 107; refine (l1In_c _ _ _ _).mono ?_; rintro E w' ⟨rfl, rfl⟩) | (go_at_call 239; apply Calls.mono; apply sMonTurn_c; (first | assumption | ((first | (apply Rs.at0; assumption) | (apply Ow.rs0; assumption)); exact kf_) | omega); omega; rintro E w3 ⟨A3, c3, rfl, ho3, hb3⟩; have hst := Ex.rules hb3 rfl; obtain ⟨hc3, hf3, hz3⟩ := hst))
    go_ret2
    exact ⟨A1, c1, by simp, (by simpa using ho1.less (by omega)), ext_⟩
  have e3 := monTurn_y g3
  have E3 := Lib.hid e3; clear e3
  cases g4 : Sw.turnMay (Sw.turned xs a (-v)) b v
  case false =>
    have e : Sw.moveMay xs a b v = false := by simp [Sw.moveMay, g4]
    have e2 : Sw.monMove xs a b v = xs := by simp [Sw.monMove, e]
    rw [e, e2]; clear e e2 g2
    go_enter Tryz.func265, Tryz.ntmps265
    go_wp2_with (first | (at_builtin; apply wpList_app (lo := w.heap.size) el_I one_I rfl rfl rfl rfl; (first | assumption | exact Ow.nil _ _ | (apply Ow.keep; assumption; exact kf_) | (refine Ow.new [] (by (first | rfl | (simp only [zA, zC, zD, zN]; done) | omega)) rfl rfl (fun _ => rfl) (by exact sz_) (by omega))); (first | ((first | (apply Rs.at0; assumption) | (apply Ow.rs0; assumption)); exact kf_)); omega; exact sz_; intro A1 c1 w2 ho1 hch1 hat1 hex1 hlow1; have hb := hex1 (fun _ => False) w (by exact ext_) (by exact sz_); have hz := hch1.size; (try simp only [zA, zC, zD, zN] at hz); obtain ⟨hc, hf⟩ := low_rules hlow1; clear hlow1 hex1) | (go_at_call 107; refine (l1In_c _ _ _ _).mono ?_; rintro E w' ⟨rfl, rfl⟩) | (go_at_call 239; apply Calls.mono; apply (sMonTurn_c (xs := Sw.turned xs a (-v))); (first | assumption | ((first | (apply Rs.at0; assumption) | (apply Ow.rs0; assumption)); exact kf_) | omega); omega; rintro E w4 ⟨A4, c4, rfl, ho4, hb4⟩; have hst := Ex.rules hb4 rfl; obtain ⟨hc4, hf4, hz4⟩ := hst) | (go_at_call 239; apply Calls.mono; apply (sMonTurn_c (xs := xs)); (first | assumption | ((first | (apply Rs.at0; assumption) | (apply Ow.rs0; assumption)); exact kf_) | omega); omega; rintro E w3 ⟨A3, c3, rfl, ho3, hb3⟩; rw [E3.out] at ho3; have hst := Ex.rules hb3 rfl; obtain ⟨hc3, hf3, hz3⟩ := hst))
    go_ret2
    exact ⟨A1, c1, by simp, (by simpa using ho1.less (by omega)), ext_⟩
  have e : Sw.moveMay xs a b v = true := by simp [Sw.moveMay, g1, g2, g3, g4]
  have e2 : Sw.monMove xs a b v = Sw.turned (Sw.turned xs a (-v)) b v := by simp [Sw.monMove, e]
  have e4 := monTurn_y g4
  have E4 := Lib.hid e4; clear e4
  rw [e, e2]; clear e e2 g2
  go_enter Tryz.func265, Tryz.ntmps265
  go_wp2_with (first | (go_at_call 107; refine (l1In_c _ _ _ _).mono ?_; rintro E w' ⟨rfl, rfl⟩) | (go_at_call 239; apply Calls.mono; apply (sMonTurn_c (xs := Sw.turned xs a (-v))); (first | assumption | ((first | (apply Rs.at0; assumption) | (apply Ow.rs0; assumption)); exact kf_) | omega); omega; rintro E w4 ⟨A4, c4, rfl, ho4, hb4⟩; rw [E4.out] at ho4; have hst := Ex.rules hb4 rfl; obtain ⟨hc4, hf4, hz4⟩ := hst) | (go_at_call 239; apply Calls.mono; apply (sMonTurn_c (xs := xs)); (first | assumption | ((first | (apply Rs.at0; assumption) | (apply Ow.rs0; assumption)); exact kf_) | omega); omega; rintro E w3 ⟨A3, c3, rfl, ho3, hb3⟩; rw [E3.out] at ho3; have hst := Ex.rules hb3 rfl; obtain ⟨hc3, hf3, hz3⟩ := hst))
  go_ret2
  exact ⟨A4, c4, rfl, ho4.less (by omega), ext_⟩
end Go.Proofs.YtdbnbembjebfhaaGreat

