/- Texts joined: Small, Tree, Plain4, RegQ, End. -/
import Derived.Test.YtnnoiagommiapaaGreatPy5
import Derived.Test.YtnnoiagommiapaaGreatPy3
import Derived.Test.YtnnoiagommiapaaGreatRows
import Derived.Handed
import Derived.JoinedOf
set_option maxRecDepth 100000
set_option linter.unusedSimpArgs false
set_option linter.unusedVariables false
namespace Go.Proofs.YtnnoiagommiapaaGreat
open Go.RowKit Go
set_option maxHeartbeats 400000
theorem sEntLeaf_c (e : Sw.Ent) (w : World) : Calls Tryz.prog 274 #[.agg #[.int .i64 e.kind, .int .i64 e.ticket, .int .i64 e.who, .int .i64 e.price]] w fun E w' => E = .returned (.int .i64 (Sw.entLeaf e)) ∧ Ex w w' := by
 go_enter Tryz.func274, Tryz.ntmps274
 go_wp2_with (go_at_call 286; apply Calls.mono; apply (sMixLeaf_c (xs := [e.kind, e.ticket, e.who, e.price])); (refine Rs.new _ (by simp only [zq_]) rfl rfl (fun _ => rfl) (by omega)); omega; rintro E w' ⟨rfl, rfl⟩)
 go_ret
 exact ⟨rfl, ((Ch.refl _ _).alloc _).alloc _⟩
theorem sOwnLeaf_c (t : Int) (r : Sw.Row) (w : World) : Calls Tryz.prog 278 #[.int .i64 t, .agg #[.int .i64 r.who, .int .i64 r.face, .bool r.used]] w fun E w' => E = .returned (.int .i64 (Sw.ownLeaf t r)) ∧ Ex w w' := by
 by_cases h : Sw.inR t 0 7 = true
 · have h' : 0 ≤ t ∧ t ≤ 7 := by simpa [Sw.inR] using h
   obtain ⟨t0, t1⟩ := h'
   cases hu : r.used
   · go_enter Tryz.func278, Tryz.ntmps278
     go_wp2_with (first | (go_at_call 99; refine (l1In_c _ _ _ _).mono ?_; rintro E w' ⟨rfl, rfl⟩) | (go_at_call 286; apply Calls.mono; apply (sMixLeaf_c (xs := [1000 + t, r.who, r.face, 0])); (refine Rs.new _ (by simp only [zq_]) rfl rfl (fun _ => rfl) (by omega)); omega; rintro E w' ⟨rfl, rfl⟩))
     go_ret
     exact ⟨ret_i (by simp [Sw.ownLeaf, h, hu]), ((Ch.refl _ _).alloc _).alloc _⟩
   · go_enter Tryz.func278, Tryz.ntmps278
     go_wp2_with (first | (go_at_call 99; refine (l1In_c _ _ _ _).mono ?_; rintro E w' ⟨rfl, rfl⟩) | (go_at_call 286; apply Calls.mono; apply (sMixLeaf_c (xs := [1000 + t, r.who, r.face, 1])); (refine Rs.new _ (by simp only [zq_]) rfl rfl (fun _ => rfl) (by omega)); omega; rintro E w' ⟨rfl, rfl⟩))
     go_ret
     exact ⟨ret_i (by simp [Sw.ownLeaf, h, hu]), ((Ch.refl _ _).alloc _).alloc _⟩
 · go_enter Tryz.func278, Tryz.ntmps278
   go_wp2_with (first | (go_at_call 99; refine (l1In_c _ _ _ _).mono ?_; rintro E w' ⟨rfl, rfl⟩))
   go_ret
   exact ⟨ret_i (by simp [Sw.ownLeaf, h]), (Ch.refl _ _).alloc _⟩
theorem sEntOk_c (e : Sw.Ent) (w : World) : Calls Tryz.prog 284 #[.agg #[.int .i64 e.kind, .int .i64 e.ticket, .int .i64 e.who, .int .i64 e.price]] w fun E w' => E = .returned (.bool (Sw.entOk e)) ∧ Ex w w' := by
 go_enter Tryz.func284, Tryz.ntmps284
 go_wp2_with (first | (go_at_call 99; refine (l1In_c _ _ _ _).mono ?_; rintro E w' ⟨rfl, rfl⟩) | (go_at_call 178; refine (sEntCap_c _ _).mono ?_; rintro E w' ⟨rfl, rfl⟩))
 all_goals (try (refine wn_ fun W0 hb0 hc0 hf0 hz0 => ?_; go_region_held3 (fun w' => Held W0 w') ((exact hq_)) ((first | (go_at_call 99; refine (l1In_c _ _ _ _).mono ?_; rintro E w' ⟨rfl, rfl⟩) | (go_at_call 178; refine (sEntCap_c _ _).mono ?_; rintro E w' ⟨rfl, rfl⟩))); all_goals (obtain ⟨hb, hc, hf, hz⟩ := xh (by assumption : Held W0 _))))
 go_wp2
 all_goals (go_ret; refine ⟨ret_b ?_, (by first | rfl | exact ext_)⟩; go_tidy; (try simp only [Bool.not_eq_true', Bool.not_eq_false', Bool.not_eq_true, Bool.not_eq_false, beq_iff_eq, bne_iff_ne, ne_eq, beq_eq_false_iff_ne, bne_eq_false_iff_eq] at *); (first | rfl | (simp [Sw.entOk, Sw.entCap, show Sw.inR 50 1 50 = true from by decide, *]; done) | (simp [Sw.entOk, Sw.entCap, show Sw.inR 50 1 50 = true from by decide, *]; omega) | (simp [Sw.entOk, Sw.entCap, show Sw.inR 50 1 50 = true from by decide, beqI, *]; done) | (simp_all [Sw.entOk, Sw.entCap, show Sw.inR 50 1 50 = true from by decide, beqI]; done) | (simp_all [Sw.entOk, Sw.entCap, show Sw.inR 50 1 50 = true from by decide, beqI] <;> omega) | simp_all [Sw.entOk, Sw.entCap, show Sw.inR 50 1 50 = true from by decide, beqI]))
theorem sHedOk_c (t : Sw.Head) (w : World) : Calls Tryz.prog 100 #[.agg #[.int .i64 t.size, .int .i64 t.log, .int .i64 t.own]] w fun E w' => E = .returned (.bool (Sw.hedOk t)) ∧ Ex w w' := by
 go_enter Tryz.func100, Tryz.ntmps100
 go_wp2_with (first | (go_at_call 99; refine (l1In_c _ _ _ _).mono ?_; rintro E w' ⟨rfl, rfl⟩) | (go_at_call 179; refine (sMixOk_c _ _).mono ?_; rintro E w' ⟨rfl, rfl⟩))
 all_goals (go_ret; refine ⟨ret_b (by simp [Sw.hedOk, *]), (Ch.refl _ _).alloc _⟩)
theorem sTreOk_c (A : Option Addr) (c n : Nat) (xs : List Int) (w : World) (h : RI w 0 A c n xs) : Calls Tryz.prog 101 #[.slice A n c] w fun E w' => E = .returned (.bool (Sw.treOk xs)) ∧ w = w' := by
 have hl := Lib.hid h.1
 have hm : n ≤ 9223372036854775807 := by have := h.2.le; have := h.2.cap; unfold maxLen at this; omega
 by_cases hn : n ≤ 40
 · have hb : decide (40 < n) = false := by simp; omega
   go_enter Tryz.func101, Tryz.ntmps101
   go_wp2
   go_loop [3] (fun i => ∃ k : Nat, k ≤ n ∧ i = .int .i64 k ∧ xs.all Sw.mixOk = (xs.drop k).all Sw.mixOk) (fun i => n - (intOf i).toNat)
   case atStart => exact ⟨0, Nat.zero_le _, rfl, rfl⟩
   case round =>
     obtain ⟨k, hk, rfl, hrel⟩ := hrel
     by_cases hlt : k < n
     · obtain ⟨g, off, y, rfl, hg0, hg, hd, hy, hc⟩ := at_I h hlt
       rw [hd] at hrel
       clear hd hy
       have Hrel := Lib.hid hrel; clear hrel
       go_wp2_with (first | (go_at_call 179; refine (sMixOk_c _ _).mono ?_; rintro E w' ⟨rfl, rfl⟩))
       all_goals (first | (refine ⟨⟨k + 1, by omega, by go_num, ?_⟩, by simp [intOf]; omega⟩; have hh := Hrel.out; clear Hrel; rw [List.all_cons] at hh; rw [hh]; clear hh; go_tidy; (try simp only [Bool.not_eq_true', Bool.not_eq_false', Bool.not_eq_true, Bool.not_eq_false, beq_iff_eq, bne_iff_ne, ne_eq, beq_eq_false_iff_ne, bne_eq_false_iff_eq] at *); have hp : Sw.mixOk y = true := (by (first | (simp [Sw.mixOk, *]; done) | (simp [Sw.mixOk, *]; omega) | (simp [Sw.mixOk, *]; intros; simp_all; done) | (simp_all [Sw.mixOk]; done))); simp [hp]) | (go_ret; refine ⟨ret_b ?_, rfl⟩; have hh := Hrel.out; clear Hrel; rw [List.all_cons] at hh; unfold Sw.treOk; rw [hh]; clear hh; go_tidy; (try simp only [Bool.not_eq_true', Bool.not_eq_false', Bool.not_eq_true, Bool.not_eq_false, beq_iff_eq, bne_iff_ne, ne_eq, beq_eq_false_iff_ne, bne_eq_false_iff_eq] at *); have hp : Sw.mixOk y = false := (by (first | (simp [Sw.mixOk, *]; done) | (simp [Sw.mixOk, *]; omega) | (simp [Sw.mixOk, *]; intros; simp_all; done) | (simp_all [Sw.mixOk]; done))); simp [hp]))
     · have Hrel := Lib.hid hrel; clear hrel
       go_wp2
       go_ret
       refine ⟨ret_b ?_, rfl⟩
       have := Hrel.out
       rw [List.drop_of_length_le (by have := hl.out; omega)] at this
       rw [Sw.treOk, this, ← hl.out]
       simp [hn]
 · go_enter Tryz.func101, Tryz.ntmps101
   go_wp2
   go_ret
   refine ⟨ret_b ?_, rfl⟩
   rw [Sw.treOk, ← hl.out]
   simp [hn]
set_option maxHeartbeats 400000
theorem split_eq {n j : Nat} (h1 : 2 ^ j < n) (h2 : n ≤ 2 * 2 ^ j) : Sw.split n = 2 ^ j := by
 unfold Sw.split
 have : (n - 1).log2 = j := (Nat.log2_eq_iff (by omega)).2 ⟨by omega, by rw [Nat.pow_succ]; omega⟩
 rw [this]
theorem sTreSplit_c (n : Nat) (w : World) (h2 : 2 ≤ n) (h40 : n ≤ 40) : Calls Tryz.prog 272 #[.int .i64 n] w fun E w' => E = .returned (.int .i64 (Sw.split n)) ∧ w = w' := by
 have hin : Sw.inR n 2 40 = true := by simp [Sw.inR]; omega
 go_enter Tryz.func272, Tryz.ntmps272
 go_wp2_with (first | (go_at_call 99; refine (l1In_c _ _ _ _).mono ?_; rintro E w' ⟨rfl, rfl⟩))
 go_loop [3] (fun k => ∃ p : Nat, k = .int .i64 p ∧ (∃ j, p = 2 ^ j) ∧ 1 ≤ p ∧ p < n) (fun k => n - (intOf k).toNat)
 case atStart => exact ⟨1, rfl, ⟨0, rfl⟩, by omega, by omega⟩
 case round =>
   obtain ⟨p, rfl, hj, hp1, hpn⟩ := hrel
   have Hj := Lib.hid hj; clear hj
   by_cases hlt : 2 * p < n
   · go_wp2
     go_round
     case rel => exact ⟨2 * p, by go_num, by obtain ⟨j, rfl⟩ := Hj.out; exact ⟨j + 1, by rw [Nat.pow_succ]; omega⟩, by omega, hlt⟩
     case measure => simp [intOf]; omega
   · go_wp2
     go_ret
     obtain ⟨j, rfl⟩ := Hj.out
     exact ⟨ret_i (by rw [split_eq hpn (by omega)]), rfl⟩
theorem Rs.take {α : Type} {enc : α → List Value} {sz : Nat} {w : World} {lo c n : Nat} {A : Option Addr} {xs : List α} (h : Rs enc sz w lo A c n xs) (hsz : ∀ x, (enc x).length = sz) {k : Nat} (hk : k ≤ n) :
   Rs enc sz w lo A c k (xs.take k) := by
 obtain ⟨rfl, h⟩ := h
 have hf : ∀ (xs : List α) (k : Nat), k ≤ xs.length → (xs.take k).flatMap enc = (xs.flatMap enc).take (k * sz) := by
   intro xs
   induction xs with
   | nil => intro k hk; simp
   | cons x xs ih =>
     intro k hk
     cases k with
     | zero => simp
     | succ k =>
       simp only [List.take_succ_cons, List.flatMap_cons]
       have hx : (enc x).length ≤ (k + 1) * sz := by rw [hsz, Nat.succ_mul]; omega
       rw [ih k (by simpa using hk), List.take_append, List.take_of_length_le hx, hsz]
       rw [show (k + 1) * sz - sz = k * sz from by rw [Nat.succ_mul]; omega]
 have hl : ((xs.take k).flatMap enc).length = k * sz := by
   rw [hf xs k hk, List.length_take, h.len]
   exact Nat.min_eq_left (Nat.mul_le_mul_right _ hk)
 refine ⟨by simp; omega, hl, Nat.le_trans hk h.le, h.cap, h.nil, fun a ha hk0 => ?_⟩
 obtain ⟨h1, h2, h3, h4⟩ := h.cells a ha (by omega)
 refine ⟨h1, h2, h3, fun j u hu => h4 j u ?_⟩
 rw [hf xs k hk, List.getElem?_take] at hu
 split at hu
 · exact hu
 · cases hu
theorem Rs.drop {α : Type} {enc : α → List Value} {sz : Nat} {w : World} {lo c n : Nat} {A : Option Addr} {xs : List α} (h : Rs enc sz w lo A c n xs) (hsz : ∀ x, (enc x).length = sz) {k : Nat} (hk : k ≤ n) :
   Rs enc sz w lo (if c = k then A else A.map (·.add (k * sz))) (c - k) (n - k) (xs.drop k) := by
 obtain ⟨rfl, h⟩ := h
 have hf : ∀ (xs : List α) (k : Nat), k ≤ xs.length → (xs.drop k).flatMap enc = (xs.flatMap enc).drop (k * sz) := by
   intro xs
   induction xs with
   | nil => intro k hk; simp
   | cons x xs ih =>
     intro k hk
     cases k with
     | zero => simp
     | succ k =>
       simp only [List.drop_succ_cons, List.flatMap_cons]
       have hx : (enc x).length ≤ (k + 1) * sz := by rw [hsz, Nat.succ_mul]; omega
       rw [ih k (by simpa using hk), List.drop_append, List.drop_of_length_le hx, hsz]
       rw [show (k + 1) * sz - sz = k * sz from by rw [Nat.succ_mul]; omega]
       simp
 have hl : ((xs.drop k).flatMap enc).length = (xs.length - k) * sz := by
   rw [hf xs k hk, List.length_drop, h.len, Nat.sub_mul]
 have hle := h.le
 refine ⟨by simp, hl, by omega, Nat.le_trans (Nat.sub_le _ _) h.cap, fun hA => ?_, fun a ha hn0 => ?_⟩
 · cases A with
   | none => have := h.nil rfl; omega
   | some a => by_cases hck : c = k <;> simp [hck] at hA
 · by_cases hc : c = k
   · omega
   · rw [if_neg hc] at ha
     cases A with
     | none => simp at ha
     | some a0 =>
       obtain ⟨g, off, spot⟩ := a0
       obtain ⟨h1, h2, h3, h4⟩ := h.cells _ rfl (by omega)
       dsimp only at h1 h2 h3 h4
       subst h1
       simp only [Option.map_some, Addr.add_lit] at ha
       obtain rfl := Option.some.inj ha
       refine ⟨rfl, h2, h3, fun j u hu => ?_⟩
       rw [hf xs k hk, List.getElem?_drop] at hu
       have := h4 _ u hu
       rw [← Nat.add_assoc] at this
       exact this
theorem RI_drop {w : World} {lo c n k : Nat} {A : Option Addr} {xs : List Int} (h : RI w lo A c n xs) (hk : k < n) : RI w lo (A.map (fun x => x.add k)) (c - k) (n - k) (xs.drop k) := by
 have := Rs.drop h (fun _ => rfl) (Nat.le_of_lt hk)
 rw [if_neg (by have := h.2.le; omega)] at this
 simpa using this
theorem RI_take {w : World} {lo c n k : Nat} {A : Option Addr} {xs : List Int} (h : RI w lo A c n xs) (hk : k ≤ n) : RI w lo A c k (xs.take k) := Rs.take h (fun _ => rfl) hk
theorem root_two {xs : List Int} (h : 2 ≤ xs.length) : Sw.root xs = Sw.pair (Sw.root (xs.take (Sw.split xs.length))) (Sw.root (xs.drop (Sw.split xs.length))) := by
 match xs, h with
 | x :: y :: r, _ => rw [Sw.root]; rfl
theorem List.all_take {p : Int → Bool} {xs : List Int} {k : Nat} (h : xs.all p = true) : (xs.take k).all p = true := by
 rw [List.all_eq_true] at *; exact fun x hx => h x (List.mem_of_mem_take hx)
theorem List.all_drop {p : Int → Bool} {xs : List Int} {k : Nat} (h : xs.all p = true) : (xs.drop k).all p = true := by
 rw [List.all_eq_true] at *; exact fun x hx => h x (List.mem_of_mem_drop hx)
theorem pair_ok (a b : Int) : Sw.mixOk (Sw.pair a b) = true := by
 rw [mixOk_bd]; unfold Sw.pair
 exact ⟨Int.emod_nonneg _ (by omega), by have := Int.emod_lt_of_pos (a * 8191 + b * 127 + a * b + 31) (show (0 : Int) < 65521 by omega); omega⟩
theorem root_ok : ∀ (xs : List Int), xs.all Sw.mixOk = true → Sw.mixOk (Sw.root xs) = true
 | [], _ => by simp [Sw.root]; decide
 | [x], h => by simpa [Sw.root] using h
 | x :: y :: r, _ => by rw [Sw.root]; exact pair_ok _ _
theorem mixPair_ok {a b : Int} (ha : Sw.mixOk a = true) (hb : Sw.mixOk b = true) : Sw.mixPair a b = Sw.pair a b := by simp [Sw.mixPair, ha, hb]
theorem sRoot_c (N : Nat) (A : Option Addr) (c n : Nat) (xs : List Int) (w : World) (hN : n ≤ N) (hxs : RI w 0 A c n xs) (h40 : n ≤ 40) (hok : xs.all Sw.mixOk = true) : Calls Tryz.prog 244 #[.slice A n c] w fun E w' => E = .returned (.int .i64 (Sw.root xs)) ∧ Ex w w' := by
 induction N generalizing A c n xs w with
 | zero =>
   have hl := hxs.1
   obtain rfl : n = 0 := by omega
   have hx : xs = [] := List.eq_nil_of_length_eq_zero (by omega)
   subst hx
   clear hl
   go_enter Tryz.func244, Tryz.ntmps244
   go_wp2_with fail
   go_ret
   exact ⟨ret_i (by simp [Sw.root]), Ch.refl _ _⟩
 | succ N ih =>
   have hl := Lib.hid hxs.1
   have hcap := hxs.2.le
   by_cases h0 : n = 0
   · subst h0
     have hx : xs = [] := List.eq_nil_of_length_eq_zero (by have := hl.out; omega)
     subst hx
     go_enter Tryz.func244, Tryz.ntmps244
     go_wp2_with fail
     go_ret
     exact ⟨ret_i (by simp [Sw.root]), Ch.refl _ _⟩
   by_cases h1 : n = 1
   · subst h1
     obtain ⟨g, off, y, rfl, hg0, hg, hd, hy, hc⟩ := at_I hxs (show 0 < 1 by omega)
     have hx : xs = [y] := by
       have := hl.out
       match xs, this, hy with
       | [z], _, hy => simpa using hy
     subst hx
     clear hd hy
     simp only [Nat.add_zero] at hc
     go_enter Tryz.func244, Tryz.ntmps244
     go_wp2_with fail
     go_ret
     exact ⟨ret_i (by simp [Sw.root]), Ch.refl _ _⟩
   have h2 : 2 ≤ n := by omega
   have hb0 : decide (n = 0) = false := by simp [h0]
   have hb1 : decide (n = 1) = false := by simp [h1]
   have hs1 := Sw.split_lt h2
   have hs0 := Sw.split_pos n
   have z3 : ¬ (c = Sw.split n) := by omega
   have z0 : (0 : Int) ≤ ↑(Sw.split n) := by omega
   have z1 : (↑(Sw.split n) : Int) ≤ ↑n := by omega
   have z2 : (↑(Sw.split n) : Int) ≤ ↑c := by omega
   go_enter Tryz.func244, Tryz.ntmps244
   go_wp2_with (first | (go_at_call 272; apply Calls.mono; apply sTreSplit_c; (first | assumption | omega); (first | assumption | omega); rintro E w' ⟨rfl, rfl⟩))
   (refine wn_ fun W0 hb0 hc0 hf0 hz0 => ?_; go_region_held3 (fun w' => Held W0 w') ((exact hq_)) ((first | (go_at_call 244; apply Calls.mono; apply ih; omega; (first | (apply Rs.at0; apply RI_take hxs; omega; (exact kf_)) | (apply Rs.at0; apply RI_drop hxs; omega; (exact kf_))); omega; (first | exact List.all_take hok | exact List.all_drop hok); rintro E w1 ⟨rfl, hb⟩) | (go_at_call 273; refine (sMixPair_c _ _ _).mono ?_; rintro E w' ⟨rfl, rfl⟩))); all_goals (obtain ⟨hb, hc, hf, hz⟩ := xh (by assumption : Held W0 _)))
   go_wp2
   go_ret
   refine ⟨ret_i ?_, ext_⟩
   have e := root_two (xs := xs) (by have := hl.out; omega)
   rw [← hl.out] at e
   rw [mixPair_ok (root_ok _ (List.all_take hok)) (root_ok _ (List.all_drop hok)), e]
end Go.Proofs.YtnnoiagommiapaaGreat
namespace Go.Proofs.YtnnoiagommiapaaGreat.Sw
open Go.RowKit (wrap64)
inductive DoneBy (m : Mkt) (rows : List Row) (r : Req) : Mkt → Prop
 | issue : r.kind = 1 → r.user = 1 → r.who ≠ 1 → (rowAt rows r.ticket).who = 0 → m.log.length < 40 → moveMay m.purses r.who 1 r.price = true →
     DoneBy m rows r { m with purses := turned (turned m.purses r.who (-r.price)) 1 r.price, log := m.log ++ [⟨1, r.ticket, r.who, r.price⟩] }
 | offer : r.kind = 2 → (rowAt rows r.ticket).who = r.user → dealAt m.deals r.ticket = none → (rowAt rows r.ticket).used = false → r.price ≤ entCap (rowAt rows r.ticket).face →
     DoneBy m rows r { m with deals := insertDeal ⟨r.ticket, r.user, r.price, 0, 0⟩ m.deals }
 | drop (k : Nat) (d : Deal) : r.kind = 3 → (rowAt rows r.ticket).who = r.user → dealAt m.deals r.ticket = some k → m.deals[k]? = some d → d.ticket = r.ticket → held d = false →
     DoneBy m rows r { m with deals := m.deals.eraseIdx k }
 | fund (k : Nat) (d : Deal) : r.kind = 4 → dealAt m.deals r.ticket = some k → m.deals[k]? = some d → d.ticket = r.ticket → held d = false → d.seller ≠ r.user → turnMay m.purses r.user (-d.price) = true →
     DoneBy m rows r { m with purses := turned m.purses r.user (-d.price), deals := m.deals.set k { d with buyer := r.user, due := m.clock + 5 } }
 | settle (k : Nat) (d : Deal) : r.kind = 5 → dealAt m.deals r.ticket = some k → m.deals[k]? = some d → d.ticket = r.ticket → held d = true → d.seller = r.user → m.log.length < 40 → turnMay m.purses d.seller d.price = true →
     DoneBy m rows r { m with purses := turned m.purses d.seller d.price, log := m.log ++ [⟨2, r.ticket, d.buyer, d.price⟩], deals := m.deals.eraseIdx k }
 | enter : r.kind = 6 → (rowAt rows r.ticket).who = r.user → (rowAt rows r.ticket).used = false → dealAt m.deals r.ticket = none → m.log.length < 40 →
     DoneBy m rows r { m with log := m.log ++ [⟨3, r.ticket, r.user, 0⟩] }
theorem settle_may {m : Mkt} {rows : List Row} (h : MOk m rows) {k : Nat} {d : Deal} (hd : m.deals[k]? = some d) (hh : held d = true) : turnMay m.purses d.seller d.price = true := by
 have hdo := dealOk_iff.1 (h.deals.get hd)
 refine turnMay_in h.mon hdo.2.1 (by have := hdo.2.2.2.2.1; omega) ?_
 have h4 := h.sum
 have h5 := heldSum_erase hd
 have h6 := (heldSum_bd (h.deals.sub (List.eraseIdx_sublist m.deals k)).1).1
 have : heldIn d = d.price := by simp [heldIn, hh]
 omega
theorem effect_done {m : Mkt} {rows : List Row} {r : Req} (h : MOk m rows) (hr : reqOk r = true) : ((effect m r).2 ≠ 1 ∧ (effect m r).1 = m) ∨ ((effect m r).2 = 1 ∧ DoneBy m rows r (effect m r).1) := by
 have hr := reqOk_iff.1 hr
 have hlog := (ownFold_some.1 h.fold).1
 unfold effect
 rw [mktRows_of h.fold]
 by_cases k1 : r.kind = 1
 · rw [if_pos k1]
   unfold issue
   split
   · exact .inl ⟨by simp, rfl⟩
   split
   · exact .inl ⟨by simp, rfl⟩
   split
   · exact .inl ⟨by simp, rfl⟩
   split
   · rename_i h1 h2 h3 h4
     exact .inr ⟨rfl, .issue k1 (by omega) (by omega) (by omega) (by omega) h4⟩
   · exact .inl ⟨by simp, rfl⟩
 rw [if_neg k1]
 by_cases k2 : r.kind = 2
 · rw [if_pos k2]
   unfold offer
   split
   · exact .inl ⟨by simp, rfl⟩
   split
   · exact .inl ⟨by simp, rfl⟩
   split
   · exact .inl ⟨by simp, rfl⟩
   · rename_i h1 h2 h3
     simp only [not_or, Bool.not_eq_true] at h2
     exact .inr ⟨rfl, .offer k2 (by simpa using h1) (none_of h2.1) h2.2 (by omega)⟩
 rw [if_neg k2]
 by_cases k3 : r.kind = 3
 · rw [if_pos k3]
   unfold dropIt
   split
   · exact .inl ⟨by simp, rfl⟩
   rename_i h1
   split
   · exact .inl ⟨by simp, rfl⟩
   rename_i k hk
   obtain ⟨d, hd, ht⟩ := dealAt_some hk
   rw [getD_of hd]
   split
   · exact .inl ⟨by simp, rfl⟩
   · exact .inr ⟨rfl, .drop k d k3 (by simpa using h1) hk hd ht (by simpa using ‹¬ held d = true›)⟩
 rw [if_neg k3]
 by_cases k4 : r.kind = 4
 · rw [if_pos k4]
   unfold fund
   split
   · exact .inl ⟨by simp, rfl⟩
   rename_i k hk
   obtain ⟨d, hd, ht⟩ := dealAt_some hk
   rw [getD_of hd]
   split
   · exact .inl ⟨by simp, rfl⟩
   split
   · exact .inl ⟨by simp, rfl⟩
   split
   · exact .inr ⟨rfl, .fund k d k4 hk hd ht (by simpa using ‹¬ held d = true›) ‹_› ‹_›⟩
   · exact .inl ⟨by simp, rfl⟩
 rw [if_neg k4]
 by_cases k5 : r.kind = 5
 · rw [if_pos k5]
   unfold settle
   split
   · exact .inl ⟨by simp, rfl⟩
   rename_i k hk
   obtain ⟨d, hd, ht⟩ := dealAt_some hk
   rw [getD_of hd]
   split
   · exact .inl ⟨by simp, rfl⟩
   split
   · exact .inl ⟨by simp, rfl⟩
   split
   · exact .inl ⟨by simp, rfl⟩
   · rename_i h1 h2 h3
     have hh : held d = true := by simpa using h1
     have hm := settle_may h hd hh
     refine .inr ⟨rfl, ?_⟩
     rw [show monTurn m.purses d.seller d.price = turned m.purses d.seller d.price from by simp [monTurn, hm]]
     exact .settle k d k5 hk hd ht hh (by simpa using h2) (by omega) hm
 rw [if_neg k5]
 unfold enter
 split
 · exact .inl ⟨by simp, rfl⟩
 split
 · exact .inl ⟨by simp, rfl⟩
 split
 · exact .inl ⟨by simp, rfl⟩
 · rename_i h1 h2 h3
   simp only [not_or, Bool.not_eq_true] at h2
   exact .inr ⟨rfl, .enter (by omega) (by simpa using h1) h2.1 (none_of h2.2) (by omega)⟩
theorem said_of {m : Mkt} {rows : List Row} (h : MOk m rows) {u : Int} (hu : 1 ≤ u ∧ u ≤ 5) : numOk (lastOf m.nums u) (lastOf m.said u) = true := by
 have hn := h.nlen
 have hs := h.slen
 obtain ⟨a, ha⟩ : ∃ a, m.nums[(u - 1).toNat]? = some a := ⟨_, List.getElem?_eq_getElem (by omega)⟩
 obtain ⟨b, hb⟩ : ∃ b, m.said[(u - 1).toNat]? = some b := ⟨_, List.getElem?_eq_getElem (by omega)⟩
 unfold lastOf
 rw [getD_of ha, getD_of hb]
 exact (numsOk_iff (by rw [hn, hs])).1 h.nums _ _ _ ha hb
end Go.Proofs.YtnnoiagommiapaaGreat.Sw
namespace Go.Proofs.YtnnoiagommiapaaGreat
open Go.RowKit Go
theorem HeldR.setr {rb : Nat} {W w : World} {p : Addr} {u : Value} (h : HeldR rb W w) (hp : p.block = rb) : HeldR rb W (w.setCell p u) := .of (h.2.setCell (.inl hp) u)
theorem HeldR.drw {rb : Nat} {W w : World} (h : HeldR rb W w) : HeldR rb W w.drew := .of h.2.drew
theorem HeldR.rfl_ (rb : Nat) (W : World) : HeldR rb W W := .of (Ch.refl _ _)
theorem hdQ {p : Prop} (h : p := by ((try dsimp only); (repeat (first | with_reducible assumption | with_reducible exact HeldR.start _ _ | with_reducible refine HeldR.setr ?_ rfl | with_reducible refine HeldR.alloc ?_ _ | with_reducible refine HeldR.drw ?_ | with_reducible exact HeldR.ex (by assumption) (by assumption) | with_reducible exact HeldR.of (Ex.ch (by assumption)) | with_reducible exact HeldR.rfl_ _ _)))) : p := h
end Go.Proofs.YtnnoiagommiapaaGreat
namespace Go.Proofs.YtnnoiagommiapaaGreat
open Go.ChangeShapes Go.WideShapes Go.ChangeAt Go.RowKit Go
theorem own_knob : ownKnob Tryz.prog.godebug = none := by kernel_rfl
theorem laid_out : laidOutB Tryz.prog = true := by kernel_rfl
end Go.Proofs.YtnnoiagommiapaaGreat
