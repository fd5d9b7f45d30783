/- Texts joined: Mon2, Draw1. -/
import Derived.Test.YtnnoiagommiapaaGreatPy9
import Derived.Test.YtnnoiagommiapaaGreatPy8
import Derived.Test.YtnnoiagommiapaaGreatPy7
import Derived.Laws.BitsAllLaws
import Derived.Deep.DeepCutAuto
set_option maxRecDepth 100000
set_option linter.unusedSimpArgs false
set_option linter.unusedVariables false
namespace Go.Proofs.YtnnoiagommiapaaGreat
open Go.RowKit Go
set_option maxHeartbeats 400000
theorem sMonOk_c (A : Option Addr) (c n : Nat) (xs : List Int) (w : World) (hxs : RI w 0 A c n xs) : Calls Tryz.prog 97 #[.slice A n c] w fun E w' => E = .returned (.bool (Sw.monOk xs)) ∧ w = w' := by
 have hl := Lib.hid hxs.1
 have hbig := Rs.big hxs
 by_cases hn : n = 5
 · subst hn
   go_enter Tryz.func97, Tryz.ntmps97
   go_wp2
   go_loop [3] (fun i => ∃ k : Nat, k ≤ 5 ∧ i = .int .i64 k ∧ xs.all (fun n => Sw.inR n 0 100000) = (xs.drop k).all (fun n => Sw.inR n 0 100000)) (fun i => 5 - (intOf i).toNat)
   case atStart => exact ⟨0, Nat.zero_le _, rfl, rfl⟩
   case round =>
     obtain ⟨k, hk, rfl, hrel⟩ := hrel
     by_cases hlt : k < 5
     · obtain ⟨g, off, y, rfl, hg0, hg, hd, hy, hc⟩ := at_I hxs hlt
       rw [hd] at hrel
       clear hd hy
       have Hrel := Lib.hid hrel; clear hrel
       cases hp : Sw.inR y 0 100000 with
       | true =>
         go_wp2_with (first | (go_at_call 99; refine (l1In_c _ _ _ _).mono ?_; rintro E w' ⟨rfl, rfl⟩))
         go_round
         case rel => exact ⟨k + 1, by omega, by go_num, by rw [Hrel.out, List.all_cons, hp, Bool.true_and]⟩
         case measure => simp [intOf]; omega
       | false =>
         go_wp2_with (first | (go_at_call 99; refine (l1In_c _ _ _ _).mono ?_; rintro E w' ⟨rfl, rfl⟩))
         go_ret
         exact ⟨ret_b (by rw [Sw.monOk, Hrel.out, List.all_cons, hp]; simp), rfl⟩
     · have Hrel := Lib.hid hrel; clear hrel
       go_wp2
       go_ret
       refine ⟨ret_b ?_, rfl⟩
       rw [Sw.monOk, Hrel.out, List.drop_of_length_le (by have := hl.out; omega), ← hl.out]
       rfl
 · have hb : decide (n = 5) = false := by simp [hn]
   go_enter Tryz.func97, Tryz.ntmps97
   go_wp2
   go_ret
   refine ⟨ret_b ?_, rfl⟩
   rw [Sw.monOk, ← hl.out, hb]
   rfl
theorem monTurn_y {xs : List Int} {who v : Int} (h : Sw.turnMay xs who v = true) : Sw.monTurn xs who v = Sw.turned xs who v := by simp [Sw.monTurn, h]
theorem monTurn_n {xs : List Int} {who v : Int} (h : Sw.turnMay xs who v = false) : Sw.monTurn xs who v = xs := by simp [Sw.monTurn, h]
theorem monOk_len {xs : List Int} (h : Sw.monOk xs = true) : xs.length = 5 := (Sw.monOk_iff.1 h).1
theorem purse_at {xs : List Int} {k : Nat} {y : Int} (h : xs[k]? = some y) : Sw.purse xs (k + 1) = y := by
 unfold Sw.purse
 rw [show ((k : Int) + 1 - 1).toNat = k from by omega, List.getD_eq_getElem?_getD, h]
 rfl
theorem sMonTurn_c (A : Option Addr) (c n : Nat) (xs : List Int) (who v : Int) (w : World) (hxs : RI w 0 A c n xs) (hn : n ≤ 4194304) : Calls Tryz.prog 229 #[.slice A n c, .int .i64 who, .int .i64 v] w fun E w' => ∃ A' c', E = .returned (.tuple #[.slice A' n c', .bool (Sw.turnMay xs who v)]) ∧ OwI w' w.heap.size A' c' n (Sw.monTurn xs who v) ∧ Ex w w' := by
 cases g1 : Sw.monOk xs
 case false =>
   have e : Sw.turnMay xs who v = false := by simp [Sw.turnMay, g1]
   rw [e, monTurn_n e]; clear e
   go_enter Tryz.func229, Tryz.ntmps229
   go_wp2_with (first | (at_builtin; apply wpList_app (lo := w.heap.size) el_I one_I rfl rfl rfl rfl; (first | assumption | exact Ow.nil _ _ | (apply Ow.keep; assumption; exact kf_) | (refine own_)); (first | (exact rd_)); omega; exact sz_; intro A1 c1 w2 ho1 hch1 hat1 hex1 hlow1; have hb := hex1 (fun _ => False) w (by exact ext_) (by exact sz_); have hz := hch1.size; (try simp only [zq_] at hz); obtain ⟨hc, hf⟩ := low_rules hlow1; clear hlow1 hex1) | (go_at_call 97; apply Calls.mono; apply sMonOk_c; (exact rd_); rintro E w' ⟨rfl, rfl⟩))
   go_ret2
   exact ⟨A1, c1, by simp, by simpa using ho1, ext_⟩
 have h5 := monOk_len g1
 have hn5 : n = 5 := by rw [hxs.1, h5]
 subst hn5
 clear h5
 cases g2 : Sw.inR who 1 5
 case false =>
   have e : Sw.turnMay xs who v = false := by simp [Sw.turnMay, g2]
   rw [e, monTurn_n e]; clear e
   go_enter Tryz.func229, Tryz.ntmps229
   go_wp2_with (first | (at_builtin; apply wpList_app (lo := w.heap.size) el_I one_I rfl rfl rfl rfl; (first | assumption | exact Ow.nil _ _ | (apply Ow.keep; assumption; exact kf_) | (refine own_)); (first | (exact rd_)); omega; exact sz_; intro A1 c1 w2 ho1 hch1 hat1 hex1 hlow1; have hb := hex1 (fun _ => False) w (by exact ext_) (by exact sz_); have hz := hch1.size; (try simp only [zq_] at hz); obtain ⟨hc, hf⟩ := low_rules hlow1; clear hlow1 hex1) | (go_at_call 97; apply Calls.mono; apply sMonOk_c; (exact rd_); rintro E w' ⟨rfl, rfl⟩) | (go_at_call 99; refine (l1In_c _ _ _ _).mono ?_; rintro E w' ⟨rfl, rfl⟩))
   go_ret2
   exact ⟨A1, c1, by simp, by simpa using ho1, ext_⟩
 cases g3 : Sw.inR v (-100000) 100000
 case false =>
   have e : Sw.turnMay xs who v = false := by simp [Sw.turnMay, g3]
   rw [e, monTurn_n e]; clear e
   go_enter Tryz.func229, Tryz.ntmps229
   go_wp2_with (first | (at_builtin; apply wpList_app (lo := w.heap.size) el_I one_I rfl rfl rfl rfl; (first | assumption | exact Ow.nil _ _ | (apply Ow.keep; assumption; exact kf_) | (refine own_)); (first | (exact rd_)); omega; exact sz_; intro A1 c1 w2 ho1 hch1 hat1 hex1 hlow1; have hb := hex1 (fun _ => False) w (by exact ext_) (by exact sz_); have hz := hch1.size; (try simp only [zq_] at hz); obtain ⟨hc, hf⟩ := low_rules hlow1; clear hlow1 hex1) | (go_at_call 97; apply Calls.mono; apply sMonOk_c; (exact rd_); rintro E w' ⟨rfl, rfl⟩) | (go_at_call 99; refine (l1In_c _ _ _ _).mono ?_; rintro E w' ⟨rfl, rfl⟩))
   go_ret2
   exact ⟨A1, c1, by simp, by simpa using ho1, ext_⟩
 have hw := Sw.inR_iff.1 g2
 have hv := Sw.inR_iff.1 g3
 obtain ⟨k, rfl⟩ : ∃ k : Nat, who = k + 1 := ⟨(who - 1).toNat, by omega⟩
 have hk : k < 5 := by omega
 obtain ⟨g, off, y, rfl, hg0, hg, hd, hy, hc0⟩ := at_I hxs hk
 have hyb : 0 ≤ y ∧ y ≤ 100000 := (Sw.monOk_iff.1 g1).2 y (List.mem_of_getElem? hy)
 have hpu := purse_at hy
 have Hpu := Lib.hid hpu
 have Hy := Lib.hid hy
 clear hd hy hpu
 obtain ⟨y0, y1⟩ := hyb
 obtain ⟨v0, v1⟩ := hv
 clear hw
 have t2 : IntKind.i64.wrap ((k : Int) + 1 - 1) = k := by rw [IntWalk.i64_in _ (by omega)]; omega
 cases g4 : Sw.inR (y + v) 0 100000
 case false =>
   have e : Sw.turnMay xs (k + 1) v = false := by simp [Sw.turnMay, Hpu.out, g4]
   rw [e, monTurn_n e]; clear e
   go_enter Tryz.func229, Tryz.ntmps229
   go_wp2_with (first | (at_builtin; apply wpList_app (lo := w.heap.size) el_I one_I rfl rfl rfl rfl; (first | assumption | exact Ow.nil _ _ | (apply Ow.keep; assumption; exact kf_) | (refine own_)); (first | (exact rd_)); omega; exact sz_; intro A1 c1 w2 ho1 hch1 hat1 hex1 hlow1; have hb := hex1 (fun _ => False) w (by exact ext_) (by exact sz_); have hz := hch1.size; (try simp only [zq_] at hz); obtain ⟨hc, hf⟩ := low_rules hlow1; clear hlow1 hex1) | (go_at_call 97; apply Calls.mono; apply sMonOk_c; (exact rd_); rintro E w' ⟨rfl, rfl⟩) | (go_at_call 99; refine (l1In_c _ _ _ _).mono ?_; rintro E w' ⟨rfl, rfl⟩))
   go_ret2
   exact ⟨A1, c1, by simp, by simpa using ho1, ext_⟩
 have e : Sw.turnMay xs (k + 1) v = true := by simp [Sw.turnMay, g1, g2, g3, Hpu.out, g4]
 rw [e, monTurn_y e]; clear e
 go_enter Tryz.func229, Tryz.ntmps229
 go_wp2_with (first | (at_builtin; apply wpList_app (lo := w.heap.size) el_I one_I rfl rfl rfl rfl; (first | assumption | exact Ow.nil _ _ | (apply Ow.keep; assumption; exact kf_) | (refine own_)); (first | (exact rd_)); omega; exact sz_; intro A1 c1 w2 ho1 hch1 hat1 hex1 hlow1; have hb := hex1 (fun _ => False) w (by exact ext_) (by exact sz_); have hz := hch1.size; (try simp only [zq_] at hz); obtain ⟨hc, hf⟩ := low_rules hlow1; clear hlow1 hex1))
 simp only [Nat.zero_add, List.nil_append] at ho1
 apply Calls.mono; apply sMonOk_c; (first | assumption | (exact rd_) | omega); rintro E w3 ⟨rfl, rfl⟩
 obtain ⟨g', x', hA, hlo, hlt, hx, hcx, hfz⟩ := at_OI ho1 hk
 obtain rfl : x' = y := by have := Hy.out; rw [hx] at this; exact Option.some.inj this
 subst hA
 clear hx
 go_wp2_with (first | (go_at_call 99; refine (l1In_c _ _ _ _).mono ?_; rintro E w' ⟨rfl, rfl⟩))
 go_ret2
 refine ⟨_, _, rfl, ?_, ext_⟩
 have r := OI_set ho1 rfl Hy.out (x' + v)
 rw [Sw.turned, Hpu.out, show ((k : Int) + 1 - 1).toNat = k from by omega]
 exact r
theorem sMonMove_c (A : Option Addr) (c n : Nat) (xs : List Int) (a b v : Int) (w : World) (hxs : RI w 0 A c n xs) (hn : n ≤ 4194304) : Calls Tryz.prog 265 #[.slice A n c, .int .i64 a, .int .i64 b, .int .i64 v] w fun E w' => ∃ A' c', E = .returned (.tuple #[.slice A' n c', .bool (Sw.moveMay xs a b v)]) ∧ OwI w' w.heap.size A' c' n (Sw.monMove xs a b v) ∧ Ex w w' := by
 cases g1 : Sw.inR v 0 100000
 case false =>
   have e : Sw.moveMay xs a b v = false := by simp [Sw.moveMay, g1]
   have e2 : Sw.monMove xs a b v = xs := by simp [Sw.monMove, e]
   rw [e, e2]; clear e e2
   go_enter Tryz.func265, Tryz.ntmps265
   go_wp2_with (first | (at_builtin; apply wpList_app (lo := w.heap.size) el_I one_I rfl rfl rfl rfl; (first | assumption | exact Ow.nil _ _ | (apply Ow.keep; assumption; exact kf_) | (refine own_)); (first | (exact rd_)); omega; exact sz_; intro A1 c1 w2 ho1 hch1 hat1 hex1 hlow1; have hb := hex1 (fun _ => False) w (by exact ext_) (by exact sz_); have hz := hch1.size; (try simp only [zq_] at hz); obtain ⟨hc, hf⟩ := low_rules hlow1; clear hlow1 hex1) | (go_at_call 99; refine (l1In_c _ _ _ _).mono ?_; rintro E w' ⟨rfl, rfl⟩))
   go_ret2
   exact ⟨A1, c1, by simp, by simpa using ho1, ext_⟩
 have hv := Sw.inR_iff.1 g1
 obtain ⟨v0, v1⟩ := hv
 by_cases g2 : a = b
 case pos =>
   have hab : (a == b) = true := by simp [g2]
   have e : Sw.moveMay xs a b v = false := by simp [Sw.moveMay, g2]
   have e2 : Sw.monMove xs a b v = xs := by simp [Sw.monMove, e]
   rw [e, e2]; clear e e2 g2
   go_enter Tryz.func265, Tryz.ntmps265
   go_wp2_with (first | (at_builtin; apply wpList_app (lo := w.heap.size) el_I one_I rfl rfl rfl rfl; (first | assumption | exact Ow.nil _ _ | (apply Ow.keep; assumption; exact kf_) | (refine own_)); (first | (exact rd_)); omega; exact sz_; intro A1 c1 w2 ho1 hch1 hat1 hex1 hlow1; have hb := hex1 (fun _ => False) w (by exact ext_) (by exact sz_); have hz := hch1.size; (try simp only [zq_] at hz); obtain ⟨hc, hf⟩ := low_rules hlow1; clear hlow1 hex1) | (go_at_call 99; refine (l1In_c _ _ _ _).mono ?_; rintro E w' ⟨rfl, rfl⟩))
   go_ret2
   exact ⟨A1, c1, by simp, by simpa using ho1, ext_⟩
 have hab : (a == b) = false := by simp [g2]
 cases g3 : Sw.turnMay xs a (-v)
 case false =>
   have e : Sw.moveMay xs a b v = false := by simp [Sw.moveMay, g3]
   have e2 : Sw.monMove xs a b v = xs := by simp [Sw.monMove, e]
   rw [e, e2]; clear e e2 g2
   go_enter Tryz.func265, Tryz.ntmps265
   go_wp2_with (first | (at_builtin; apply wpList_app (lo := w.heap.size) el_I one_I rfl rfl rfl rfl; (first | assumption | exact Ow.nil _ _ | (apply Ow.keep; assumption; exact kf_) | (refine own_)); (first | (exact rd_)); omega; exact sz_; intro A1 c1 w2 ho1 hch1 hat1 hex1 hlow1; have hb := hex1 (fun _ => False) w (by exact ext_) (by exact sz_); have hz := hch1.size; (try simp only [zq_] at hz); obtain ⟨hc, hf⟩ := low_rules hlow1; clear hlow1 hex1) | (go_at_call 99; refine (l1In_c _ _ _ _).mono ?_; rintro E w' ⟨rfl, rfl⟩) | (go_at_call 229; apply Calls.mono; apply sMonTurn_c; (first | assumption | (exact rd_) | omega); omega; rintro E w3 ⟨A3, c3, rfl, ho3, hb3⟩; have hst := Ex.rules hb3 rfl; obtain ⟨hc3, hf3, hz3⟩ := hst))
   go_ret2
   exact ⟨A1, c1, by simp, (by simpa using ho1.less (by omega)), ext_⟩
 have e3 := monTurn_y g3
 have E3 := Lib.hid e3; clear e3
 cases g4 : Sw.turnMay (Sw.turned xs a (-v)) b v
 case false =>
   have e : Sw.moveMay xs a b v = false := by simp [Sw.moveMay, g4]
   have e2 : Sw.monMove xs a b v = xs := by simp [Sw.monMove, e]
   rw [e, e2]; clear e e2 g2
   go_enter Tryz.func265, Tryz.ntmps265
   go_wp2_with (first | (at_builtin; apply wpList_app (lo := w.heap.size) el_I one_I rfl rfl rfl rfl; (first | assumption | exact Ow.nil _ _ | (apply Ow.keep; assumption; exact kf_) | (refine own_)); (first | (exact rd_)); omega; exact sz_; intro A1 c1 w2 ho1 hch1 hat1 hex1 hlow1; have hb := hex1 (fun _ => False) w (by exact ext_) (by exact sz_); have hz := hch1.size; (try simp only [zq_] at hz); obtain ⟨hc, hf⟩ := low_rules hlow1; clear hlow1 hex1) | (go_at_call 99; refine (l1In_c _ _ _ _).mono ?_; rintro E w' ⟨rfl, rfl⟩) | (go_at_call 229; apply Calls.mono; apply (sMonTurn_c (xs := Sw.turned xs a (-v))); (first | assumption | (exact rd_) | omega); omega; rintro E w4 ⟨A4, c4, rfl, ho4, hb4⟩; have hst := Ex.rules hb4 rfl; obtain ⟨hc4, hf4, hz4⟩ := hst) | (go_at_call 229; apply Calls.mono; apply (sMonTurn_c (xs := xs)); (first | assumption | (exact rd_) | omega); omega; rintro E w3 ⟨A3, c3, rfl, ho3, hb3⟩; rw [E3.out] at ho3; have hst := Ex.rules hb3 rfl; obtain ⟨hc3, hf3, hz3⟩ := hst))
   go_ret2
   exact ⟨A1, c1, by simp, (by simpa using ho1.less (by omega)), ext_⟩
 have e : Sw.moveMay xs a b v = true := by simp [Sw.moveMay, g1, g2, g3, g4]
 have e2 : Sw.monMove xs a b v = Sw.turned (Sw.turned xs a (-v)) b v := by simp [Sw.monMove, e]
 have e4 := monTurn_y g4
 have E4 := Lib.hid e4; clear e4
 rw [e, e2]; clear e e2 g2
 go_enter Tryz.func265, Tryz.ntmps265
 go_wp2_with (first | (go_at_call 99; refine (l1In_c _ _ _ _).mono ?_; rintro E w' ⟨rfl, rfl⟩) | (go_at_call 229; apply Calls.mono; apply (sMonTurn_c (xs := Sw.turned xs a (-v))); (first | assumption | (exact rd_) | omega); omega; rintro E w4 ⟨A4, c4, rfl, ho4, hb4⟩; rw [E4.out] at ho4; have hst := Ex.rules hb4 rfl; obtain ⟨hc4, hf4, hz4⟩ := hst) | (go_at_call 229; apply Calls.mono; apply (sMonTurn_c (xs := xs)); (first | assumption | (exact rd_) | omega); omega; rintro E w3 ⟨A3, c3, rfl, ho3, hb3⟩; rw [E3.out] at ho3; have hst := Ex.rules hb3 rfl; obtain ⟨hc3, hf3, hz3⟩ := hst))
 go_ret2
 exact ⟨A4, c4, rfl, ho4.less (by omega), ext_⟩
end Go.Proofs.YtnnoiagommiapaaGreat
namespace Go.Proofs.YtnnoiagommiapaaGreat
open Go.RowKit Go
set_option maxHeartbeats 1000000
structure Rdr (w : World) (rb p : Nat) : Prop where
 ex : ∃ A c n bs, w.cell? ⟨rb, 0, none⟩ = some (.slice A n c) ∧ RB w 0 A c n bs ∧ n ≤ 2000 ∧ (∀ x ∈ bs, 0 ≤ x ∧ x ≤ 255) ∧ ∀ a, A = some a → 0 < n → a.block < rb
 pos : w.cell? ⟨rb, 1, none⟩ = some (.int .i64 p)
 free : ∀ i, w.frozen? ⟨rb, i, none⟩ = false
 lt : rb < w.heap.size
 lb : Lb w rb 2
structure KB (rb : Nat) (w w' : World) : Prop where
 size : w.heap.size ≤ w'.heap.size
 block : ∀ b, b ≤ rb → b < w.heap.size → w'.heap[b]? = w.heap[b]?
theorem bR (rb : Nat) (w : World) : KB rb w w := ⟨Nat.le_refl _, fun _ _ _ => rfl⟩
theorem bA {rb : Nat} {a w : World} {o : Obj} (h : KB rb a w) : KB rb a (w.alloc o) :=
 ⟨by simp; have := h.size; omega, fun i hl hi => (Below.heap_alloc _ _ _ (Nat.lt_of_lt_of_le hi h.size)).trans (h.block i hl hi)⟩
theorem bD {rb : Nat} {a w : World} (h : KB rb a w) : KB rb a w.drew := ⟨h.size, h.block⟩
theorem bN {rb : Nat} {a w : World} {n : Nat} (h : KB rb a w) : KB rb a (w.drewN n) := ⟨h.size, h.block⟩
theorem bS {rb : Nat} {a w : World} {p : Addr} {u : Value} (h : KB rb a w) (hp : rb < p.block) : KB rb a (w.setCell p u) :=
 ⟨by simpa [World.setCell] using h.size, fun i hl hi => (Below.heap_setCell _ _ _ _ (by rintro rfl; omega)).trans (h.block i hl hi)⟩
theorem bE {rb : Nat} {a w w' : World} (hb : Ex w w') (h : KB rb a w) : KB rb a w' :=
 ⟨Nat.le_trans h.size hb.size, fun i hl hi => (hb.block i (Nat.lt_of_lt_of_le hi h.size) (fun h => h)).trans (h.block i hl hi)⟩
theorem bC {g rb : Nat} {a w w' : World} (hb : Ch (· = g) w w') (h : KB rb a w) (hg : rb < g) : KB rb a w' :=
 ⟨Nat.le_trans h.size hb.size, fun i hl hi => (hb.block i (Nat.lt_of_lt_of_le hi h.size) (by omega)).trans (h.block i hl hi)⟩
theorem kb_ {p : Prop} (h : p := by with_reducible repeat (first | exact bR _ _ | apply bA | apply bD | apply bN | (refine bS ?_ (by first | omega | (simp only [zq_]; omega))) | (apply bE; assumption) | (refine bC (by assumption) ?_ (by first | omega | (simp only [zq_]; omega))))) : p := h
theorem Rdr.keep {w w' : World} {rb p : Nat} (h : Rdr w rb p) (k : KB rb w w') : Rdr w' rb p := by
 obtain ⟨A, c, n, bs, h1, h2, h3, h4, h5⟩ := h.ex
 have hb := k.block rb (Nat.le_refl _) h.lt
 refine ⟨⟨A, c, n, bs, (World.cell?_of_block (w := w) (a := ⟨rb, 0, none⟩) hb).trans h1, ⟨h2.1, ?_⟩, h3, h4, h5⟩, (World.cell?_of_block (w := w) (a := ⟨rb, 1, none⟩) hb).trans h.pos, fun i => (World.frozen?_of_block (w := w) (a := ⟨rb, i, none⟩) hb).trans (h.free i), Nat.lt_of_lt_of_le h.lt k.size, ?_⟩
 case refine_2 => obtain ⟨cs, T, h6, h7⟩ := h.lb; exact ⟨cs, T, hb.trans h6, h7⟩
 refine ⟨h2.2.len, h2.2.le, h2.2.cap, h2.2.nil, fun a ha hn => ?_⟩
 obtain ⟨q1, q2, q3, q4⟩ := h2.2.cells a ha hn
 exact ⟨q1, q2, Nat.lt_of_lt_of_le q3 k.size, fun j u hu => (World.cell?_of_block (w := w) (a := ⟨a.block, a.off + j, none⟩) (k.block a.block (Nat.le_of_lt (h5 a ha hn)) q3)).trans (q4 j u hu)⟩
theorem Rdr.step {w : World} {rb p : Nat} (h : Rdr w rb p) : Rdr (w.setCell ⟨rb, 1, none⟩ (.int .i64 ((p : Int) + 1))) rb (p + 1) := by
 obtain ⟨A, c, n, bs, h1, h2, h3, h4, h5⟩ := h.ex
 have hne : ∀ b, b ≠ rb → (w.setCell ⟨rb, 1, none⟩ (.int .i64 ((p : Int) + 1))).heap[b]? = w.heap[b]? := fun b hb => Below.heap_setCell _ _ _ _ hb
 obtain ⟨o, ho⟩ : ∃ o, w.heap[rb]? = some o := ⟨_, Array.getElem?_eq_getElem h.lt⟩
 have hpos := h.pos
 cases o with
 | cells cs T fz =>
   have hs : ∀ i, i ≠ 1 → (w.setCell ⟨rb, 1, none⟩ (.int .i64 ((p : Int) + 1))).cell? ⟨rb, i, none⟩ = w.cell? ⟨rb, i, none⟩ := by
     intro i hi
     simp [World.cell?, World.setCell, Array.getElem?_modify, ho, Array.getElem?_setIfInBounds, Ne.symm hi]
   refine ⟨⟨A, c, n, bs, (hs 0 (by omega)).trans h1, ⟨h2.1, ?_⟩, h3, h4, h5⟩, ?_, fun i => ?_, by simpa [World.setCell] using h.lt, h.lb.set⟩
   · refine ⟨h2.2.len, h2.2.le, h2.2.cap, h2.2.nil, fun a ha hn => ?_⟩
     obtain ⟨q1, q2, q3, q4⟩ := h2.2.cells a ha hn
     exact ⟨q1, q2, by simpa [World.setCell] using q3, fun j u hu => (World.cell?_of_block (w := w) (a := ⟨a.block, a.off + j, none⟩) (hne _ (show a.block ≠ rb by have := h5 a ha hn; omega))).trans (q4 j u hu)⟩
   · have hlt : 1 < cs.size := by
       simp only [World.cell?, ho] at hpos
       by_cases h : 1 < cs.size
       · exact h
       · simp [Array.getElem?_eq_none (by omega : cs.size ≤ 1)] at hpos
     simp [World.cell?, World.setCell, Array.getElem?_modify, ho, Array.getElem?_setIfInBounds, hlt]
   · have := h.free i
     simp [World.frozen?, World.setCell, Array.getElem?_modify, ho] at this ⊢
     exact this
 | _ => simp [World.cell?, ho] at hpos
theorem xor_nat (a b : Nat) (ha : a < 4611686018427387904) (hb : b < 4611686018427387904) : bits .xor .i64 (a : Int) (b : Int) = ((a ^^^ b : Nat) : Int) := by
 show IntKind.i64.wrap ((BitVec.ofInt 64 (a : Int) ^^^ BitVec.ofInt 64 (b : Int)).toNat : Int) = _
 have hx : a ^^^ b < 2 ^ 62 := Nat.xor_lt_two_pow (by omega) (by omega)
 rw [BitVec.toNat_xor, BitVec.ofInt_natCast, BitVec.ofInt_natCast, BitVec.toNat_ofNat, BitVec.toNat_ofNat, Nat.mod_eq_of_lt (by omega), Nat.mod_eq_of_lt (by omega), IntWalk.i64_in _ (by omega)]
def Rdp (w : World) (rb P : Nat) : Prop := ∃ p, p ≤ P ∧ Rdr w rb p
theorem Rdp.keep {w w' : World} {rb P : Nat} (h : Rdp w rb P) (k : KB rb w w') : Rdp w' rb P := by
 obtain ⟨p, hp, h⟩ := h
 exact ⟨p, hp, h.keep k⟩
theorem Rdp.more {w : World} {rb P Q : Nat} (h : Rdp w rb P) (k : P ≤ Q) : Rdp w rb Q := by
 obtain ⟨p, hp, h⟩ := h
 exact ⟨p, by omega, h⟩
theorem Rdp.lt {w : World} {rb P : Nat} (h : Rdp w rb P) : rb < w.heap.size := by
 obtain ⟨p, hp, h⟩ := h
 exact h.lt
theorem Rdp.lb {w : World} {rb P : Nat} (h : Rdp w rb P) : Lb w rb 2 := by
 obtain ⟨p, hp, h⟩ := h
 exact h.lb
theorem Rdr.new {w : World} {A : Option Addr} {c n : Nat} {bs : List Int} {T : TypeId} (h : RB w 0 A c n bs) (hn : n ≤ 2000) (hq : ∀ x ∈ bs, 0 ≤ x ∧ x ≤ 255) :
   Rdr (w.alloc (.cells #[.slice A n c, .int .i64 0] T)) w.heap.size 0 := by
 refine ⟨⟨A, c, n, bs, by simp [go_sem], h.keep (KF.refl _ _).alloc, hn, hq, fun a ha hn0 => ?_⟩, by simp [go_sem], fun i => by simp [go_sem], by simp, Lb.new rfl rfl⟩
 exact (h.2.cells a ha hn0).2.2.1
theorem bL {rb lo : Nat} {a w w' : World} (hz : w.heap.size ≤ w'.heap.size) (hl : ∀ b, b < lo → w'.heap[b]? = w.heap[b]?) (h : KB rb a w) (hr : rb < lo) : KB rb a w' :=
 ⟨Nat.le_trans h.size hz, fun i hi hs => (hl i (by omega)).trans (h.block i hi hs)⟩
theorem RB_take {w : World} {lo c n k : Nat} {A : Option Addr} {xs : List Int} (h : RB w lo A c n xs) (hk : k ≤ n) : RB w lo A c k (xs.take k) := Rs.take h (fun _ => rfl) hk
theorem l20Open_c (A : Option Addr) (c n : Nat) (bs : List Int) (w : World) (hxs : RB w 0 A c n bs) (hq : ∀ x ∈ bs, 0 ≤ x ∧ x ≤ 255) : Calls Tryz.prog 89 #[.slice A n c] w fun E w' => ∃ rb, E = .returned (.pointer (some ⟨rb, 0, none⟩)) ∧ Rdp w' rb 0 ∧ w.heap.size ≤ rb ∧ Ex w w' := by
 have hl := Lib.hid hxs.1
 have hcap := hxs.2.le
 have hbig := Rs.big hxs
 by_cases hn : n ≤ 2000
 · have hb : decide (2000 < n) = false := by simp; omega
   have H0 := Lib.hid (And.intro hxs hq)
   clear hxs hq
   go_enter Tryz.func89, Tryz.ntmps89
   go_wp2_with fail
   go_ret
   refine ⟨_, rfl, ⟨0, Nat.le_refl _, Rdr.new H0.out.1 hn H0.out.2⟩, Nat.le_refl _, ext_⟩
 · have H0 := Lib.hid (And.intro hxs hq)
   clear hxs hq
   go_enter Tryz.func89, Tryz.ntmps89
   go_wp2_with fail
   go_ret
   refine ⟨_, rfl, ⟨0, Nat.le_refl _, Rdr.new (RB_take H0.out.1 (show 2000 ≤ n by omega)) (Nat.le_refl _) (fun x hx => H0.out.2 x (List.mem_of_mem_take hx))⟩, Nat.le_refl _, ext_⟩
theorem emod_bd (a : Nat) {m : Nat} (hm : 0 < m) : (0 : Int) ≤ (a : Int) % (m : Int) ∧ (a : Int) % (m : Int) < m := ⟨Int.emod_nonneg _ (by omega), Int.emod_lt_of_pos _ (by omega)⟩
theorem tmod_nn {x n : Int} (hx : 0 ≤ x) (hn : 1 ≤ n) : 0 ≤ x.tmod n ∧ x.tmod n < n := by
 rw [Int.tmod_eq_emod_of_nonneg hx]
 exact ⟨Int.emod_nonneg _ (by omega), Int.emod_lt_of_pos _ (by omega)⟩
theorem pick_c (rb P : Nat) (n : Int) (w : World) (hr : Rdp w rb P) (hP : P ≤ 1000000) (h1 : 1 ≤ n) : Calls Tryz.prog 92 #[.pointer (some ⟨rb, 0, none⟩), .int .i64 n] w fun E w' => ∃ v, E = .returned (.int .i64 v) ∧ (0 ≤ v ∧ v < n) ∧ Rdp w' rb (P + 1) ∧ Ch (· = rb) w w' := by
 obtain ⟨p, hp, hr⟩ := hr
 have Hs := Lib.hid (show Rdp (w.setCell ⟨rb, 1, none⟩ (.int .i64 ((p : Int) + 1))) rb (P + 1) from ⟨p + 1, by omega, hr.step⟩)
 obtain ⟨⟨A, c, m, bs, hc0, hbs, hm, hq, hab⟩, hc1, hfr, hlt⟩ := hr
 have hbig := Rs.big hbs
 have Hq := Lib.hid hq
 clear hq
 by_cases h0 : m = 0
 · subst h0
   go_enter Tryz.func92, Tryz.ntmps92
   go_wp2_with fail
   go_ret
   exact ⟨0, rfl, ⟨by omega, by omega⟩, Hs.out, Ch.setCell (S := (· = rb)) (Ch.refl _ _) (.inl rfl) _⟩
 have hm0 : 0 < m := by omega
 have hb0 : ((m : Int) == 0) = false := by simp; omega
 by_cases hlt : p < m
 · obtain ⟨g, off, y, rfl, hg0, hg, hd, hy, hc⟩ := at_B hbs hlt
   have hgr := hab _ rfl hm0
   dsimp only at hgr
   have hyb := Hq.out y (List.mem_of_getElem? hy)
   obtain ⟨hy0, hy1⟩ := hyb
   clear hd hy hab
   go_enter Tryz.func92, Tryz.ntmps92
   go_wp2_with fail
   go_ret
   exact ⟨_, rfl, ⟨Int.emod_nonneg _ (by omega), Int.emod_lt_of_pos _ (by omega)⟩, Hs.out, Ch.setCell (S := (· = rb)) (Ch.refl _ _) (.inl rfl) _⟩
 · have t1 := emod_bd p hm0
   obtain ⟨t10, t11⟩ := t1
   have t2 : (0 : Int) ≤ ((p : Int) * 7 + 3) % (m : Int) ∧ ((p : Int) * 7 + 3) % (m : Int) < m := ⟨Int.emod_nonneg _ (by omega), Int.emod_lt_of_pos _ (by omega)⟩
   obtain ⟨t20, t21⟩ := t2
   obtain ⟨g, off, y, rfl, hg0, hg, hd, hy, hcy⟩ := at_B hbs (Nat.mod_lt p hm0)
   obtain ⟨g', off', z, hA', _, _, hd', hz, hcz⟩ := at_B hbs (Nat.mod_lt (p * 7 + 3) hm0)
   cases hA'
   have hgr := hab _ rfl hm0
   dsimp only at hgr
   have hyb := Hq.out y (List.mem_of_getElem? hy)
   obtain ⟨hy0, hy1⟩ := hyb
   have hzb := Hq.out z (List.mem_of_getElem? hz)
   obtain ⟨hz0, hz1⟩ := hzb
   rw [show p % m = ((p : Int) % (m : Int)).toNat from by rw [← Int.natCast_emod]; exact (Int.toNat_natCast _).symm] at hcy
   rw [show (p * 7 + 3) % m = (((p : Int) * 7 + 3) % (m : Int)).toNat from by
     rw [show (p : Int) * 7 + 3 = ((p * 7 + 3 : Nat) : Int) from by omega, ← Int.natCast_emod]; exact (Int.toNat_natCast _).symm] at hcz
   clear hd hy hd' hz hab
   have w1 : IntKind.i64.wrap ((p : Int) * 7) = (p : Int) * 7 := IntWalk.i64_in _ (by omega)
   have w2 : IntKind.i64.wrap ((p : Int) * 7 + 3) = (p : Int) * 7 + 3 := IntWalk.i64_in _ (by omega)
   have w3 : IntKind.i64.wrap (y * 131) = y * 131 := IntWalk.i64_in _ (by omega)
   have w4 : IntKind.i64.wrap (z * 1117) = z * 1117 := IntWalk.i64_in _ (by omega)
   have w5 : IntKind.i64.wrap (y * 131 + z * 1117) = y * 131 + z * 1117 := IntWalk.i64_in _ (by omega)
   have w6 : IntKind.i64.wrap ((p : Int) * 29) = (p : Int) * 29 := IntWalk.i64_in _ (by omega)
   have w7 : IntKind.i64.wrap (y * 131 + z * 1117 + (p : Int) * 29) = y * 131 + z * 1117 + (p : Int) * 29 := IntWalk.i64_in _ (by omega)
   have e1 : (p : Int).tmod (m : Int) = (p : Int) % (m : Int) := Int.tmod_eq_emod_of_nonneg (by omega)
   have e2 : ((p : Int) * 7 + 3).tmod (m : Int) = ((p : Int) * 7 + 3) % (m : Int) := Int.tmod_eq_emod_of_nonneg (by omega)
   have e3 : (p : Int).tdiv (m : Int) = (p : Int) / (m : Int) := Int.tdiv_eq_ediv_of_nonneg (by omega)
   have t30 : (0 : Int) ≤ (p : Int) / (m : Int) := Int.ediv_nonneg (by omega) (by omega)
   have t31 : (p : Int) / (m : Int) ≤ p := Int.ediv_le_self _ (by omega)
   have w8 : IntKind.i64.wrap ((p : Int) / (m : Int) * 53) = (p : Int) / (m : Int) * 53 := IntWalk.i64_in _ (by omega)
   have w9 : IntKind.i64.wrap (y * 131 + z * 1117 + (p : Int) * 29 + (p : Int) / (m : Int) * 53) = y * 131 + z * 1117 + (p : Int) * 29 + (p : Int) / (m : Int) * 53 := IntWalk.i64_in _ (by omega)
   go_enter Tryz.func92, Tryz.ntmps92
   go_wp2_with fail
   go_quiet ((first | fail))
   go_wp2
   go_ret
   obtain ⟨X, hX⟩ : ∃ X : Nat, y * 131 + z * 1117 + (p : Int) * 29 + (p : Int) / (m : Int) * 53 = X := ⟨_, (Int.toNat_of_nonneg (by omega)).symm⟩
   have hXb : X < 4611686018427387904 := by omega
   have hx := xor_nat X (X / 64) hXb (by omega)
   rw [show ((X / 64 : Nat) : Int) = (X : Int) / 64 from by omega] at hx
   refine ⟨_, rfl, ?_, Hs.out.keep (bN (bR _ _)), (Ch.setCell (S := (· = rb)) (Ch.refl _ _) (.inl rfl) _).drewN _⟩
   rw [hX, hx]
   exact tmod_nn (Int.natCast_nonneg _) h1
def LitQ (Q : Int → Prop) : List Value → Prop
 | [] => True
 | u :: us => (∃ x, u = .int .i64 x ∧ Q x) ∧ LitQ Q us
theorem LitQ.nil {Q : Int → Prop} : LitQ Q [] := trivial
theorem LitQ.cons {Q : Int → Prop} {u : Value} {us : List Value} (h : ∃ x, u = .int .i64 x ∧ Q x) (k : LitQ Q us) : LitQ Q (u :: us) := ⟨h, k⟩
theorem LitQ.at_ {Q : Int → Prop} : ∀ {us : List Value} {i : Nat}, LitQ Q us → i < us.length → ∃ x, us[i]? = some (.int .i64 x) ∧ Q x
 | [], i, _, h => absurd h (by simp)
 | u :: us, 0, h, _ => by obtain ⟨⟨x, rfl, hx⟩, _⟩ := h; exact ⟨x, rfl, hx⟩
 | u :: us, i + 1, h, hi => LitQ.at_ (us := us) h.2 (by simpa using hi)
theorem Rdp.low {w w' : World} {rb P lo : Nat} (h : Rdp w rb P) (hz : w.heap.size ≤ w'.heap.size) (hl : ∀ b, b < lo → w'.heap[b]? = w.heap[b]?) (hr : rb < lo) : Rdp w' rb P := h.keep (bL hz hl (bR _ _) hr)
theorem pickLit (Q : Int → Prop) {rb P : Nat} {n : Int} {w : World} {cs : Array Value} {T : TypeId} (hr : Rdp (w.alloc (.cells cs T)) rb P) (hP : P ≤ 1000000) (hn : n = cs.toList.length) (hQ : LitQ Q cs.toList) (h1 : 1 ≤ n) (hlt : rb < w.heap.size) :
   Calls Tryz.prog 92 #[.pointer (some ⟨rb, 0, none⟩), .int .i64 n] (w.alloc (.cells cs T)) fun E w' => ∃ (v : Nat) (x : Int), E = .returned (.int .i64 v) ∧ (v : Int) < n ∧ Q x ∧ w'.cell? ⟨w.heap.size, v, none⟩ = some (.int .i64 x) ∧ Rdp w' rb (P + 1) ∧ Ch (· = rb) (w.alloc (.cells cs T)) w' := by
 refine (pick_c rb P n _ hr hP h1).mono ?_
 rintro E w' ⟨v, rfl, ⟨h2, h3⟩, h4, h5⟩
 obtain ⟨v, rfl⟩ := Int.eq_ofNat_of_zero_le h2
 obtain ⟨x, hx, hq⟩ := LitQ.at_ (i := v) hQ (by omega)
 refine ⟨v, x, rfl, h3, hq, ?_, h4, h5⟩
 have := h5.cell (p := ⟨w.heap.size, v, none⟩) (by simp) (by show ¬ w.heap.size = rb; omega)
 rw [this]
 simp only [World.cell?, heap_alloc_new]
 simpa using hx
theorem odd_c (rb P : Nat) (n : Int) (w : World) (hr : Rdp w rb P) (hP : P ≤ 1000000) (h1 : 1 ≤ n) (h2 : n ≤ 1000000) : Calls Tryz.prog 93 #[.pointer (some ⟨rb, 0, none⟩), .int .i64 n] w fun E w' => ∃ b, E = .returned (.bool b) ∧ Rdp w' rb (P + 1) ∧ Ch (· = rb) w w' := by
 go_enter Tryz.func93, Tryz.ntmps93
 go_wp2_with (go_at_call 92; apply Calls.mono; apply pick_c; (apply Rdp.keep; assumption; (exact kb_)); (first | assumption | omega); (first | assumption | omega); rintro E w1 ⟨v, rfl, ⟨hv0, hv1⟩, hrd, hb⟩; obtain ⟨hc, hf, hz⟩ := xd hb)
 go_ret
 exact ⟨_, rfl, hrd, ext_⟩
theorem l20Mix_c (rb P : Nat) (n : Int) (w : World) (hr : Rdp w rb P) (hP : P ≤ 999000) (h1 : 1 ≤ n) (h2 : n ≤ 1000000) : Calls Tryz.prog 220 #[.pointer (some ⟨rb, 0, none⟩), .int .i64 n] w fun E w' => ∃ m, E = .returned (.int .i64 m) ∧ Rdp w' rb (P + 4) ∧ Ch (· = rb) w w' := by
 have hlt := hr.lt
 go_enter Tryz.func220, Tryz.ntmps220
 go_wp2_with (first | (go_at_call 93; apply Calls.mono; apply odd_c; (apply Rdp.keep; assumption; (exact kb_)); (first | assumption | omega); (first | assumption | omega); (first | assumption | omega); rintro E w1 ⟨b, rfl, hrd, hb⟩; obtain ⟨hc, hf, hz⟩ := xd hb) | (go_at_call 92; apply Calls.mono; apply (pickLit (fun _ => True)); (apply Rdp.keep; assumption; (exact kb_)); omega; (first | rfl | (simp; done)); (repeat (first | exact LitQ.nil | (refine LitQ.cons ⟨_, rfl, (by first | exact trivial | omega)⟩ ?_))); omega; (first | omega | (simp only [zq_]; omega)); rintro E w1 ⟨v, x, rfl, hv, hq, hcx, hrd, hb⟩; (try simp only [zq_] at hcx); obtain ⟨hc, hf, hz⟩ := xd hb) | (go_at_call 92; apply Calls.mono; apply pick_c; (apply Rdp.keep; assumption; (exact kb_)); (first | assumption | omega); (first | assumption | omega); rintro E w1 ⟨v, rfl, ⟨hv0, hv1⟩, hrd, hb⟩; obtain ⟨hc, hf, hz⟩ := xd hb))
 all_goals (go_ret; exact ⟨_, rfl, hrd.more (by omega), ext_⟩)
def Ints (w : World) (g n : Nat) : Prop := ∃ (zs : List Int) (T : TypeId), zs.length = n ∧ w.heap[g]? = some (.cells (zs.map (Value.int .i64)).toArray T (0, 0))
section
variable {w w' : World} {g n : Nat}
theorem Ints.lt (h : Ints w g n) : g < w.heap.size := by
 obtain ⟨zs, T, h1, h2⟩ := h
 exact (Array.getElem?_eq_some_iff.1 h2).1
theorem Ints.new {cs : Array Value} {T : TypeId} {zs : List Int} (hg : g = w.heap.size) (hcs : cs = (zs.map (Value.int .i64)).toArray) (hn : zs.length = n) : Ints (w.alloc (.cells cs T)) g n := by
 subst hg hcs
 exact ⟨zs, T, hn, heap_alloc_new w _⟩
theorem Ints.alloc {o : Obj} (h : Ints w g n) : Ints (w.alloc o) g n := by
 have := h.lt
 obtain ⟨zs, T, h1, h2⟩ := h
 exact ⟨zs, T, h1, (Below.heap_alloc w o g this).trans h2⟩
theorem Ints.drew (h : Ints w g n) : Ints w.drew g n := h
theorem Ints.ch {S : Nat → Prop} (hb : Ch S w w') (hS : ¬ S g) (h : Ints w g n) : Ints w' g n := by
 have := h.lt
 obtain ⟨zs, T, h1, h2⟩ := h
 exact ⟨zs, T, h1, (hb.block g this hS).trans h2⟩
theorem Ints.set {p : Addr} {v : Int} (h : Ints w g n) (hp : p.spot = none) : Ints (w.setCell p (.int .i64 v)) g n := by
 obtain ⟨zs, T, h1, h2⟩ := h
 by_cases he : p.block = g
 · subst he
   refine ⟨zs.set p.off v, T, by rw [List.length_set]; exact h1, ?_⟩
   simp only [World.setCell, Array.getElem?_modify, if_true, h2, Option.map_some, hp]
   congr 2
   apply Array.ext'
   simp [List.map_set]
 · exact ⟨zs, T, h1, (Below.heap_setCell w p _ g (fun e => he e.symm)).trans h2⟩
theorem Ints.lb (h : Ints w g n) : Lb w g n := by
 obtain ⟨zs, T, h1, h2⟩ := h
 exact ⟨_, T, h2, by simp [h1]⟩
theorem Ints.free (h : Ints w g n) : ∀ i, w.frozen? ⟨g, i, none⟩ = false := h.lb.rules.2
theorem Ints.at_ (h : Ints w g n) {i : Nat} (hi : i < n) : ∃ a : Int, w.cell? ⟨g, i, none⟩ = some (.int .i64 a) := by
 obtain ⟨zs, T, h1, h2⟩ := h
 refine ⟨zs[i], ?_⟩
 simp [World.cell?, h2, h1, hi]
end
structure DrawAt (w0 w : World) (rb r g n P : Nat) : Prop where
 own : Ints w g n
 res : Ints w r n
 rd : Rdp w rb P
 ch : Ch (· = rb) w0 w
end Go.Proofs.YtnnoiagommiapaaGreat
