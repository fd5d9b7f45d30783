/- Texts joined: Small, Tree, Seat, Law1, Law2, Plain5, Plain6, Plain7, Plain8, Law3, SortL, End, Law4. -/
import Derived.Test.YtnnoiagommiapaaGreatPz6
import Derived.Test.YtnnoiagommiapaaGreatProg
import Derived.Test.YtnnoiagommiapaaGreatPz5
import Derived.Shelf.Sort.Plain
import Derived.Sort.OwnSortedInts
import Derived.Test.YtnnoiagommiapaaGreatRows
import Derived.Handed
import Derived.JoinedOf
set_option maxRecDepth 100000
set_option linter.unusedSimpArgs false
set_option linter.unusedVariables false
namespace Go.Proofs.YtnnoiagommiapaaGreat
open Go.RowKit Go
set_option maxHeartbeats 400000
theorem sEntLeaf_c (e : Sw.Ent) (w : World) : Calls Tryz.prog 274 #[.agg #[.int .i64 e.kind, .int .i64 e.ticket, .int .i64 e.who, .int .i64 e.price]] w fun E w' => E = .returned (.int .i64 (Sw.entLeaf e)) ∧ Ex w w' := by
 go_enter Tryz.func274, Tryz.ntmps274
 go_wp2_with (go_at_call 286; apply Calls.mono; apply (sMixLeaf_c (xs := [e.kind, e.ticket, e.who, e.price])); (refine Rs.new _ (by simp only [zq_]) rfl rfl (fun _ => rfl) (by omega)); omega; rintro E w' ⟨rfl, rfl⟩)
 go_ret
 exact ⟨rfl, ((Ch.refl _ _).alloc _).alloc _⟩
theorem sOwnLeaf_c (t : Int) (r : Sw.Row) (w : World) : Calls Tryz.prog 278 #[.int .i64 t, .agg #[.int .i64 r.who, .int .i64 r.face, .bool r.used]] w fun E w' => E = .returned (.int .i64 (Sw.ownLeaf t r)) ∧ Ex w w' := by
 by_cases h : Sw.inR t 0 7 = true
 · have h' : 0 ≤ t ∧ t ≤ 7 := by simpa [Sw.inR] using h
   obtain ⟨t0, t1⟩ := h'
   cases hu : r.used
   · go_enter Tryz.func278, Tryz.ntmps278
     go_wp2_with (first | (go_at_call 99; refine (l1In_c _ _ _ _).mono ?_; rintro E w' ⟨rfl, rfl⟩) | (go_at_call 286; apply Calls.mono; apply (sMixLeaf_c (xs := [1000 + t, r.who, r.face, 0])); (refine Rs.new _ (by simp only [zq_]) rfl rfl (fun _ => rfl) (by omega)); omega; rintro E w' ⟨rfl, rfl⟩))
     go_ret
     exact ⟨ret_i (by simp [Sw.ownLeaf, h, hu]), ((Ch.refl _ _).alloc _).alloc _⟩
   · go_enter Tryz.func278, Tryz.ntmps278
     go_wp2_with (first | (go_at_call 99; refine (l1In_c _ _ _ _).mono ?_; rintro E w' ⟨rfl, rfl⟩) | (go_at_call 286; apply Calls.mono; apply (sMixLeaf_c (xs := [1000 + t, r.who, r.face, 1])); (refine Rs.new _ (by simp only [zq_]) rfl rfl (fun _ => rfl) (by omega)); omega; rintro E w' ⟨rfl, rfl⟩))
     go_ret
     exact ⟨ret_i (by simp [Sw.ownLeaf, h, hu]), ((Ch.refl _ _).alloc _).alloc _⟩
 · go_enter Tryz.func278, Tryz.ntmps278
   go_wp2_with (first | (go_at_call 99; refine (l1In_c _ _ _ _).mono ?_; rintro E w' ⟨rfl, rfl⟩))
   go_ret
   exact ⟨ret_i (by simp [Sw.ownLeaf, h]), (Ch.refl _ _).alloc _⟩
theorem sEntOk_c (e : Sw.Ent) (w : World) : Calls Tryz.prog 284 #[.agg #[.int .i64 e.kind, .int .i64 e.ticket, .int .i64 e.who, .int .i64 e.price]] w fun E w' => E = .returned (.bool (Sw.entOk e)) ∧ Ex w w' := by
 go_enter Tryz.func284, Tryz.ntmps284
 go_wp2_with (first | (go_at_call 99; refine (l1In_c _ _ _ _).mono ?_; rintro E w' ⟨rfl, rfl⟩) | (go_at_call 178; refine (sEntCap_c _ _).mono ?_; rintro E w' ⟨rfl, rfl⟩))
 all_goals (try (refine wn_ fun W0 hb0 hc0 hf0 hz0 => ?_; go_region_held3 (fun w' => Held W0 w') ((exact hq_)) ((first | (go_at_call 99; refine (l1In_c _ _ _ _).mono ?_; rintro E w' ⟨rfl, rfl⟩) | (go_at_call 178; refine (sEntCap_c _ _).mono ?_; rintro E w' ⟨rfl, rfl⟩))); all_goals (obtain ⟨hb, hc, hf, hz⟩ := xh (by assumption : Held W0 _))))
 go_wp2
 all_goals (go_ret; refine ⟨ret_b ?_, (by first | rfl | exact ext_)⟩; go_tidy; (try simp only [Bool.not_eq_true', Bool.not_eq_false', Bool.not_eq_true, Bool.not_eq_false, beq_iff_eq, bne_iff_ne, ne_eq, beq_eq_false_iff_ne, bne_eq_false_iff_eq] at *); (first | rfl | (simp [Sw.entOk, Sw.entCap, show Sw.inR 50 1 50 = true from by decide, *]; done) | (simp [Sw.entOk, Sw.entCap, show Sw.inR 50 1 50 = true from by decide, *]; omega) | (simp [Sw.entOk, Sw.entCap, show Sw.inR 50 1 50 = true from by decide, beqI, *]; done) | (simp_all [Sw.entOk, Sw.entCap, show Sw.inR 50 1 50 = true from by decide, beqI]; done) | (simp_all [Sw.entOk, Sw.entCap, show Sw.inR 50 1 50 = true from by decide, beqI] <;> omega) | simp_all [Sw.entOk, Sw.entCap, show Sw.inR 50 1 50 = true from by decide, beqI]))
theorem sHedOk_c (t : Sw.Head) (w : World) : Calls Tryz.prog 100 #[.agg #[.int .i64 t.size, .int .i64 t.log, .int .i64 t.own]] w fun E w' => E = .returned (.bool (Sw.hedOk t)) ∧ Ex w w' := by
 go_enter Tryz.func100, Tryz.ntmps100
 go_wp2_with (first | (go_at_call 99; refine (l1In_c _ _ _ _).mono ?_; rintro E w' ⟨rfl, rfl⟩) | (go_at_call 179; refine (sMixOk_c _ _).mono ?_; rintro E w' ⟨rfl, rfl⟩))
 all_goals (go_ret; refine ⟨ret_b (by simp [Sw.hedOk, *]), (Ch.refl _ _).alloc _⟩)
theorem sTreOk_c (A : Option Addr) (c n : Nat) (xs : List Int) (w : World) (h : RI w 0 A c n xs) : Calls Tryz.prog 101 #[.slice A n c] w fun E w' => E = .returned (.bool (Sw.treOk xs)) ∧ w = w' := by
 have hl := Lib.hid h.1
 have hm : n ≤ 9223372036854775807 := by have := h.2.le; have := h.2.cap; unfold maxLen at this; omega
 by_cases hn : n ≤ 40
 · have hb : decide (40 < n) = false := by simp; omega
   go_enter Tryz.func101, Tryz.ntmps101
   go_wp2
   go_loop [3] (fun i => ∃ k : Nat, k ≤ n ∧ i = .int .i64 k ∧ xs.all Sw.mixOk = (xs.drop k).all Sw.mixOk) (fun i => n - (intOf i).toNat)
   case atStart => exact ⟨0, Nat.zero_le _, rfl, rfl⟩
   case round =>
     obtain ⟨k, hk, rfl, hrel⟩ := hrel
     by_cases hlt : k < n
     · obtain ⟨g, off, y, rfl, hg0, hg, hd, hy, hc⟩ := at_I h hlt
       rw [hd] at hrel
       clear hd hy
       have Hrel := Lib.hid hrel; clear hrel
       go_wp2_with (first | (go_at_call 179; refine (sMixOk_c _ _).mono ?_; rintro E w' ⟨rfl, rfl⟩))
       all_goals (first | (refine ⟨⟨k + 1, by omega, by go_num, ?_⟩, by simp [intOf]; omega⟩; have hh := Hrel.out; clear Hrel; rw [List.all_cons] at hh; rw [hh]; clear hh; go_tidy; (try simp only [Bool.not_eq_true', Bool.not_eq_false', Bool.not_eq_true, Bool.not_eq_false, beq_iff_eq, bne_iff_ne, ne_eq, beq_eq_false_iff_ne, bne_eq_false_iff_eq] at *); have hp : Sw.mixOk y = true := (by (first | (simp [Sw.mixOk, *]; done) | (simp [Sw.mixOk, *]; omega) | (simp [Sw.mixOk, *]; intros; simp_all; done) | (simp_all [Sw.mixOk]; done))); simp [hp]) | (go_ret; refine ⟨ret_b ?_, rfl⟩; have hh := Hrel.out; clear Hrel; rw [List.all_cons] at hh; unfold Sw.treOk; rw [hh]; clear hh; go_tidy; (try simp only [Bool.not_eq_true', Bool.not_eq_false', Bool.not_eq_true, Bool.not_eq_false, beq_iff_eq, bne_iff_ne, ne_eq, beq_eq_false_iff_ne, bne_eq_false_iff_eq] at *); have hp : Sw.mixOk y = false := (by (first | (simp [Sw.mixOk, *]; done) | (simp [Sw.mixOk, *]; omega) | (simp [Sw.mixOk, *]; intros; simp_all; done) | (simp_all [Sw.mixOk]; done))); simp [hp]))
     · have Hrel := Lib.hid hrel; clear hrel
       go_wp2
       go_ret
       refine ⟨ret_b ?_, rfl⟩
       have := Hrel.out
       rw [List.drop_of_length_le (by have := hl.out; omega)] at this
       rw [Sw.treOk, this, ← hl.out]
       simp [hn]
 · go_enter Tryz.func101, Tryz.ntmps101
   go_wp2
   go_ret
   refine ⟨ret_b ?_, rfl⟩
   rw [Sw.treOk, ← hl.out]
   simp [hn]
set_option maxHeartbeats 400000
theorem split_eq {n j : Nat} (h1 : 2 ^ j < n) (h2 : n ≤ 2 * 2 ^ j) : Sw.split n = 2 ^ j := by
 unfold Sw.split
 have : (n - 1).log2 = j := (Nat.log2_eq_iff (by omega)).2 ⟨by omega, by rw [Nat.pow_succ]; omega⟩
 rw [this]
theorem sTreSplit_c (n : Nat) (w : World) (h2 : 2 ≤ n) (h40 : n ≤ 40) : Calls Tryz.prog 272 #[.int .i64 n] w fun E w' => E = .returned (.int .i64 (Sw.split n)) ∧ w = w' := by
 have hin : Sw.inR n 2 40 = true := by simp [Sw.inR]; omega
 go_enter Tryz.func272, Tryz.ntmps272
 go_wp2_with (first | (go_at_call 99; refine (l1In_c _ _ _ _).mono ?_; rintro E w' ⟨rfl, rfl⟩))
 go_loop [3] (fun k => ∃ p : Nat, k = .int .i64 p ∧ (∃ j, p = 2 ^ j) ∧ 1 ≤ p ∧ p < n) (fun k => n - (intOf k).toNat)
 case atStart => exact ⟨1, rfl, ⟨0, rfl⟩, by omega, by omega⟩
 case round =>
   obtain ⟨p, rfl, hj, hp1, hpn⟩ := hrel
   have Hj := Lib.hid hj; clear hj
   by_cases hlt : 2 * p < n
   · go_wp2
     go_round
     case rel => exact ⟨2 * p, by go_num, by obtain ⟨j, rfl⟩ := Hj.out; exact ⟨j + 1, by rw [Nat.pow_succ]; omega⟩, by omega, hlt⟩
     case measure => simp [intOf]; omega
   · go_wp2
     go_ret
     obtain ⟨j, rfl⟩ := Hj.out
     exact ⟨ret_i (by rw [split_eq hpn (by omega)]), rfl⟩
theorem Rs.take {α : Type} {enc : α → List Value} {sz : Nat} {w : World} {lo c n : Nat} {A : Option Addr} {xs : List α} (h : Rs enc sz w lo A c n xs) (hsz : ∀ x, (enc x).length = sz) {k : Nat} (hk : k ≤ n) :
   Rs enc sz w lo A c k (xs.take k) := by
 obtain ⟨rfl, h⟩ := h
 have hf : ∀ (xs : List α) (k : Nat), k ≤ xs.length → (xs.take k).flatMap enc = (xs.flatMap enc).take (k * sz) := by
   intro xs
   induction xs with
   | nil => intro k hk; simp
   | cons x xs ih =>
     intro k hk
     cases k with
     | zero => simp
     | succ k =>
       simp only [List.take_succ_cons, List.flatMap_cons]
       have hx : (enc x).length ≤ (k + 1) * sz := by rw [hsz, Nat.succ_mul]; omega
       rw [ih k (by simpa using hk), List.take_append, List.take_of_length_le hx, hsz]
       rw [show (k + 1) * sz - sz = k * sz from by rw [Nat.succ_mul]; omega]
 have hl : ((xs.take k).flatMap enc).length = k * sz := by
   rw [hf xs k hk, List.length_take, h.len]
   exact Nat.min_eq_left (Nat.mul_le_mul_right _ hk)
 refine ⟨by simp; omega, hl, Nat.le_trans hk h.le, h.cap, h.nil, fun a ha hk0 => ?_⟩
 obtain ⟨h1, h2, h3, h4⟩ := h.cells a ha (by omega)
 refine ⟨h1, h2, h3, fun j u hu => h4 j u ?_⟩
 rw [hf xs k hk, List.getElem?_take] at hu
 split at hu
 · exact hu
 · cases hu
theorem Rs.drop {α : Type} {enc : α → List Value} {sz : Nat} {w : World} {lo c n : Nat} {A : Option Addr} {xs : List α} (h : Rs enc sz w lo A c n xs) (hsz : ∀ x, (enc x).length = sz) {k : Nat} (hk : k ≤ n) :
   Rs enc sz w lo (if c = k then A else A.map (·.add (k * sz))) (c - k) (n - k) (xs.drop k) := by
 obtain ⟨rfl, h⟩ := h
 have hf : ∀ (xs : List α) (k : Nat), k ≤ xs.length → (xs.drop k).flatMap enc = (xs.flatMap enc).drop (k * sz) := by
   intro xs
   induction xs with
   | nil => intro k hk; simp
   | cons x xs ih =>
     intro k hk
     cases k with
     | zero => simp
     | succ k =>
       simp only [List.drop_succ_cons, List.flatMap_cons]
       have hx : (enc x).length ≤ (k + 1) * sz := by rw [hsz, Nat.succ_mul]; omega
       rw [ih k (by simpa using hk), List.drop_append, List.drop_of_length_le hx, hsz]
       rw [show (k + 1) * sz - sz = k * sz from by rw [Nat.succ_mul]; omega]
       simp
 have hl : ((xs.drop k).flatMap enc).length = (xs.length - k) * sz := by
   rw [hf xs k hk, List.length_drop, h.len, Nat.sub_mul]
 have hle := h.le
 refine ⟨by simp, hl, by omega, Nat.le_trans (Nat.sub_le _ _) h.cap, fun hA => ?_, fun a ha hn0 => ?_⟩
 · cases A with
   | none => have := h.nil rfl; omega
   | some a => by_cases hck : c = k <;> simp [hck] at hA
 · by_cases hc : c = k
   · omega
   · rw [if_neg hc] at ha
     cases A with
     | none => simp at ha
     | some a0 =>
       obtain ⟨g, off, spot⟩ := a0
       obtain ⟨h1, h2, h3, h4⟩ := h.cells _ rfl (by omega)
       dsimp only at h1 h2 h3 h4
       subst h1
       simp only [Option.map_some, Addr.add_lit] at ha
       obtain rfl := Option.some.inj ha
       refine ⟨rfl, h2, h3, fun j u hu => ?_⟩
       rw [hf xs k hk, List.getElem?_drop] at hu
       have := h4 _ u hu
       rw [← Nat.add_assoc] at this
       exact this
theorem RI_drop {w : World} {lo c n k : Nat} {A : Option Addr} {xs : List Int} (h : RI w lo A c n xs) (hk : k < n) : RI w lo (A.map (fun x => x.add k)) (c - k) (n - k) (xs.drop k) := by
 have := Rs.drop h (fun _ => rfl) (Nat.le_of_lt hk)
 rw [if_neg (by have := h.2.le; omega)] at this
 simpa using this
theorem RI_take {w : World} {lo c n k : Nat} {A : Option Addr} {xs : List Int} (h : RI w lo A c n xs) (hk : k ≤ n) : RI w lo A c k (xs.take k) := Rs.take h (fun _ => rfl) hk
theorem root_two {xs : List Int} (h : 2 ≤ xs.length) : Sw.root xs = Sw.pair (Sw.root (xs.take (Sw.split xs.length))) (Sw.root (xs.drop (Sw.split xs.length))) := by
 match xs, h with
 | x :: y :: r, _ => rw [Sw.root]; rfl
theorem List.all_take {p : Int → Bool} {xs : List Int} {k : Nat} (h : xs.all p = true) : (xs.take k).all p = true := by
 rw [List.all_eq_true] at *; exact fun x hx => h x (List.mem_of_mem_take hx)
theorem List.all_drop {p : Int → Bool} {xs : List Int} {k : Nat} (h : xs.all p = true) : (xs.drop k).all p = true := by
 rw [List.all_eq_true] at *; exact fun x hx => h x (List.mem_of_mem_drop hx)
theorem pair_ok (a b : Int) : Sw.mixOk (Sw.pair a b) = true := by
 rw [mixOk_bd]; unfold Sw.pair
 exact ⟨Int.emod_nonneg _ (by omega), by have := Int.emod_lt_of_pos (a * 8191 + b * 127 + a * b + 31) (show (0 : Int) < 65521 by omega); omega⟩
theorem root_ok : ∀ (xs : List Int), xs.all Sw.mixOk = true → Sw.mixOk (Sw.root xs) = true
 | [], _ => by simp [Sw.root]; decide
 | [x], h => by simpa [Sw.root] using h
 | x :: y :: r, _ => by rw [Sw.root]; exact pair_ok _ _
theorem mixPair_ok {a b : Int} (ha : Sw.mixOk a = true) (hb : Sw.mixOk b = true) : Sw.mixPair a b = Sw.pair a b := by simp [Sw.mixPair, ha, hb]
theorem sRoot_c (N : Nat) (A : Option Addr) (c n : Nat) (xs : List Int) (w : World) (hN : n ≤ N) (hxs : RI w 0 A c n xs) (h40 : n ≤ 40) (hok : xs.all Sw.mixOk = true) : Calls Tryz.prog 244 #[.slice A n c] w fun E w' => E = .returned (.int .i64 (Sw.root xs)) ∧ Ex w w' := by
 induction N generalizing A c n xs w with
 | zero =>
   have hl := hxs.1
   obtain rfl : n = 0 := by omega
   have hx : xs = [] := List.eq_nil_of_length_eq_zero (by omega)
   subst hx
   clear hl
   go_enter Tryz.func244, Tryz.ntmps244
   go_wp2_with fail
   go_ret
   exact ⟨ret_i (by simp [Sw.root]), Ch.refl _ _⟩
 | succ N ih =>
   have hl := Lib.hid hxs.1
   have hcap := hxs.2.le
   by_cases h0 : n = 0
   · subst h0
     have hx : xs = [] := List.eq_nil_of_length_eq_zero (by have := hl.out; omega)
     subst hx
     go_enter Tryz.func244, Tryz.ntmps244
     go_wp2_with fail
     go_ret
     exact ⟨ret_i (by simp [Sw.root]), Ch.refl _ _⟩
   by_cases h1 : n = 1
   · subst h1
     obtain ⟨g, off, y, rfl, hg0, hg, hd, hy, hc⟩ := at_I hxs (show 0 < 1 by omega)
     have hx : xs = [y] := by
       have := hl.out
       match xs, this, hy with
       | [z], _, hy => simpa using hy
     subst hx
     clear hd hy
     simp only [Nat.add_zero] at hc
     go_enter Tryz.func244, Tryz.ntmps244
     go_wp2_with fail
     go_ret
     exact ⟨ret_i (by simp [Sw.root]), Ch.refl _ _⟩
   have h2 : 2 ≤ n := by omega
   have hb0 : decide (n = 0) = false := by simp [h0]
   have hb1 : decide (n = 1) = false := by simp [h1]
   have hs1 := Sw.split_lt h2
   have hs0 := Sw.split_pos n
   have z3 : ¬ (c = Sw.split n) := by omega
   have z0 : (0 : Int) ≤ ↑(Sw.split n) := by omega
   have z1 : (↑(Sw.split n) : Int) ≤ ↑n := by omega
   have z2 : (↑(Sw.split n) : Int) ≤ ↑c := by omega
   go_enter Tryz.func244, Tryz.ntmps244
   go_wp2_with (first | (go_at_call 272; apply Calls.mono; apply sTreSplit_c; (first | assumption | omega); (first | assumption | omega); rintro E w' ⟨rfl, rfl⟩))
   (refine wn_ fun W0 hb0 hc0 hf0 hz0 => ?_; go_region_held3 (fun w' => Held W0 w') ((exact hq_)) ((first | (go_at_call 244; apply Calls.mono; apply ih; omega; (first | (apply Rs.at0; apply RI_take hxs; omega; (exact kf_)) | (apply Rs.at0; apply RI_drop hxs; omega; (exact kf_))); omega; (first | exact List.all_take hok | exact List.all_drop hok); rintro E w1 ⟨rfl, hb⟩) | (go_at_call 273; refine (sMixPair_c _ _ _).mono ?_; rintro E w' ⟨rfl, rfl⟩))); all_goals (obtain ⟨hb, hc, hf, hz⟩ := xh (by assumption : Held W0 _)))
   go_wp2
   go_ret
   refine ⟨ret_i ?_, ext_⟩
   have e := root_two (xs := xs) (by have := hl.out; omega)
   rw [← hl.out] at e
   rw [mixPair_ok (root_ok _ (List.all_take hok)) (root_ok _ (List.all_drop hok)), e]
theorem el_I : ElemOk Tryz.prog 22 3 1 8 := .mk' (z := .int .i64 0) Tryz.underlying22 (by kernel_rfl) rfl (by omega)
theorem el_E : ElemOk Tryz.prog 37 207 4 32 := .mk' (z := .agg #[.int .i64 0, .int .i64 0, .int .i64 0, .int .i64 0]) Tryz.underlying37 (by kernel_rfl) rfl (by omega)
theorem el_R : ElemOk Tryz.prog 102 109 3 24 := .mk' (z := .agg #[.int .i64 0, .int .i64 0, .bool false]) Tryz.underlying102 (by kernel_rfl) rfl (by omega)
abbrev OwI := Ow encI 1 3
abbrev OwE := Ow Sw.Ent.enc 4 207
abbrev OwR := Ow Sw.Row.enc 3 109
theorem one_I (x : Int) : ∀ u ∈ encI x, u.oneCell' = true := by simp [encI, Value.oneCell']
theorem one_E (x : Sw.Ent) : ∀ u ∈ x.enc, u.oneCell' = true := by simp [Sw.Ent.enc, Value.oneCell']
theorem one_R (x : Sw.Row) : ∀ u ∈ x.enc, u.oneCell' = true := by simp [Sw.Row.enc, Value.oneCell']
set_option maxHeartbeats 400000
theorem z_I : ∀ i z, Tryz.prog.info? 3 = some i → i.zero = some z → z.cells = (encI 0).toArray := by
 have h : (Tryz.prog.info? 3).map (·.zero) = some (some (.int .i64 0)) := by kernel_rfl
 intro i z hi hz
 rw [hi] at h
 simp only [Option.map_some, Option.some.injEq] at h
 rw [hz] at h
 cases h
 rfl
theorem at_OI {w : World} {lo c n k : Nat} {A : Option Addr} {xs : List Int} (h : OwI w lo A c n xs) (hk : k < n) :
   ∃ g x, A = some ⟨g, 0, none⟩ ∧ lo ≤ g ∧ g < w.heap.size ∧ xs[k]? = some x ∧ w.cell? ⟨g, k, none⟩ = some (.int .i64 x) ∧ (∀ i, w.frozen? ⟨g, i, none⟩ = false) := by
 obtain ⟨g, x, h1, h2, h3, h4, h5, h6⟩ := Ow.at_ h (fun _ => rfl) hk
 exact ⟨g, x, h1, h2, h3, h4, by simpa using h5 0 _ (by omega) rfl, h6⟩
theorem OI_set {w : World} {lo c n k g : Nat} {A : Option Addr} {xs : List Int} (h : OwI w lo A c n xs) (hA : A = some ⟨g, 0, none⟩) {a : Int} (hx : xs[k]? = some a) (v : Int) :
   OwI (w.setCell ⟨g, k, none⟩ (.int .i64 v)) lo A c n (xs.set k v) := by
 have := Ow.set h (fun _ => rfl) (j := 0) (u := .int .i64 v) hA hx (by omega) (y := v) rfl
 simpa using this
set_option maxHeartbeats 400000
end Go.Proofs.YtnnoiagommiapaaGreat
namespace Go.Proofs.YtnnoiagommiapaaGreat.Sw
open Go.RowKit (wrap64)
def Of (log : List Ent) (h : Head) : Prop := hedAt log h.size = some h
theorem hedAt_some {log : List Ent} {s : Int} {h : Head} : hedAt log s = some h ↔ (0 ≤ s ∧ s ≤ log.length) ∧ hedOf (log.take s.toNat) = some h := by
 unfold hedAt
 split
 · rename_i hc; rw [inR_iff] at hc; simp [hc]
 · rename_i hc
   have : ¬ (0 ≤ s ∧ s ≤ log.length) := fun h => hc (inR_iff.2 h)
   simp [this]
theorem hedAt_append {log : List Ent} {s : Int} (es : List Ent) (h : 0 ≤ s ∧ s ≤ log.length) : hedAt (log ++ es) s = hedAt log s := by
 unfold hedAt
 rw [if_pos (inR_iff.2 h), if_pos (inR_iff.2 (by rw [List.length_append]; omega)), List.take_append_of_le_length (by omega)]
theorem Of.append {log : List Ent} {h : Head} (e : Of log h) (es : List Ent) : Of (log ++ es) h := by
 unfold Of at *
 rw [hedAt_append es (hedAt_some.1 e).1, e]
structure Inv (first : List Int) (w : World) : Prop where
 ok : WOk w
 isFirst : w.first = first
 fold : wldFold first w.lines = some w.market
 money : total w.market = first.sum
 gates : ∀ g ∈ w.gates, Of w.market.log g.head
 bag : ∀ x ∈ w.bag, Of w.market.log x.head
theorem Inv.rows {first : List Int} {w : World} (h : Inv first w) : ∃ rows, MOk w.market rows := mktOk_iff.1 h.ok.mkt
end Go.Proofs.YtnnoiagommiapaaGreat.Sw
namespace Go.Proofs.YtnnoiagommiapaaGreat.Sw
open Go.RowKit (wrap64)
theorem leavesFrom_len : ∀ (rows : List Row) (t : Int), (leavesFrom t rows).length = rows.length
 | [], _ => rfl
 | r :: rs, t => by simp [leavesFrom, leavesFrom_len rs]
theorem ownLeaves_len (rows : List Row) : (ownLeaves rows).length = rows.length := leavesFrom_len rows 0
end Go.Proofs.YtnnoiagommiapaaGreat.Sw
namespace Go.Proofs.YtnnoiagommiapaaGreat.Sw
open Go.RowKit (wrap64)
inductive Did (m : Mkt) (rows : List Row) (r : Req) : Mkt → Int → Prop
 | again : r.n = lastOf m.nums r.user → Did m rows r m (lastOf m.said r.user)
 | old : r.n < lastOf m.nums r.user → Did m rows r m 7
 | no (a : Int) : lastOf m.nums r.user < r.n → 2 ≤ a → a ≤ 6 → Did m rows r (noted m r a) a
 | yes (x : Mkt) : lastOf m.nums r.user < r.n → DoneBy m rows r x → Eff m x → Did m rows r (noted x r 1) 1
theorem did {m : Mkt} {rows : List Row} {r : Req} (h : MOk m rows) (hr : reqOk r = true) : Did m rows r (doIt m r).1 (doIt m r).2 := by
 unfold doIt
 split
 · exact .again ‹_›
 split
 · exact .old ‹_›
 · have ha := effect_ans m r
   have he := effect_eff h hr
   show Did m rows r (noted (effect m r).1 r (effect m r).2) (effect m r).2
   rcases effect_done h hr with ⟨h1, h2⟩ | ⟨h1, h2⟩
   · rw [h2]
     exact .no _ (by omega) (by omega) (by omega)
   · rw [h1]
     exact .yes _ (by omega) h2 he
theorem dealOf_iff {clock : Int} {rows : List Row} {ds : List Deal} (h : DOk clock rows ds) {t : Int} {d : Deal} : dealOf ds t = some d ↔ d ∈ ds ∧ d.ticket = t := by
 unfold dealOf
 constructor
 · intro e
   exact ⟨List.mem_of_find?_eq_some e, by have := List.find?_some e; simpa using this⟩
 · rintro ⟨h1, h2⟩
   cases e : ds.find? (fun d => decide (d.ticket = t)) with
   | none =>
     have := List.find?_eq_none.1 e d h1
     simp [h2] at this
   | some d' =>
     have h3 := List.mem_of_find?_eq_some e
     have h4 : d'.ticket = t := by have := List.find?_some e; simpa using this
     obtain ⟨i, hi, rfl⟩ := List.getElem_of_mem h1
     obtain ⟨j, hj, rfl⟩ := List.getElem_of_mem h3
     have := h.inj (List.getElem?_eq_getElem hi) (List.getElem?_eq_getElem hj) (by rw [h2, h4])
     subst this
     rfl
theorem dealOf_none {ds : List Deal} {t : Int} : dealOf ds t = none ↔ ∀ d ∈ ds, d.ticket ≠ t := by
 unfold dealOf
 rw [List.find?_eq_none]
 simp
theorem dealOf_same {c c' : Int} {rows rows' : List Row} {ds es : List Deal} (h : DOk c rows ds) (k : DOk c' rows' es) {t : Int} (he : ∀ d, d.ticket = t → (d ∈ ds ↔ d ∈ es)) : dealOf ds t = dealOf es t := by
 cases e : dealOf ds t with
 | none =>
   symm
   rw [dealOf_none] at e ⊢
   intro d hd ht
   exact e d ((he d ht).2 hd) ht
 | some d =>
   symm
   rw [dealOf_iff h] at e
   rw [dealOf_iff k]
   exact ⟨(he d e.2).1 e.1, e.2⟩
theorem dealOf_at {clock : Int} {rows : List Row} {ds : List Deal} (h : DOk clock rows ds) {k : Nat} {d : Deal} (hk : ds[k]? = some d) : dealOf ds d.ticket = some d := (dealOf_iff h).2 ⟨List.mem_of_getElem? hk, rfl⟩
theorem erase_mem {ds : List Deal} {k : Nat} {d x : Deal} (hk : ds[k]? = some d) (hx : x.ticket ≠ d.ticket) : x ∈ ds.eraseIdx k ↔ x ∈ ds := by
 rw [List.mem_eraseIdx_iff_getElem?]
 constructor
 · rintro ⟨i, _, hi⟩
   exact List.mem_of_getElem? hi
 · intro h
   obtain ⟨i, hi⟩ := List.getElem?_of_mem h
   refine ⟨i, ?_, hi⟩
   rintro rfl
   rw [hk] at hi
   exact hx (by rw [Option.some.inj hi])
theorem set_mem {ds : List Deal} {k : Nat} {d e x : Deal} (hk : ds[k]? = some d) (h1 : x.ticket ≠ d.ticket) (h2 : x.ticket ≠ e.ticket) : x ∈ ds.set k e ↔ x ∈ ds := by
 have hk' := (List.getElem?_eq_some_iff.1 hk).1
 constructor
 · intro h
   rcases List.mem_or_eq_of_mem_set h with h | rfl
   · exact h
   · exact absurd rfl h2
 · intro h
   obtain ⟨i, hi⟩ := List.getElem?_of_mem h
   have hne : k ≠ i := by
     rintro rfl
     rw [hk] at hi
     exact h1 (by rw [Option.some.inj hi])
   exact List.mem_of_getElem? (i := i) (by rw [List.getElem?_set, if_neg hne]; exact hi)
theorem DoneBy.fold {m x : Mkt} {rows : List Row} {r : Req} (h : MOk m rows) (hr : reqOk r = true) (d : DoneBy m rows r x) :
   ∃ rows', ownFold x.log = some rows' ∧ ∀ t, 0 ≤ t → t ≠ r.ticket → rowAt rows' t = rowAt rows t := by
 have hr := reqOk_iff.1 hr
 have ho := ownFold_ok h.fold
 have put : ∀ (e : Ent), e.ticket = r.ticket → ownFits rows e = true → m.log.length < 40 → ∃ rows', ownFold (m.log ++ [e]) = some rows' ∧ ∀ t, 0 ≤ t → t ≠ r.ticket → rowAt rows' t = rowAt rows t := by
   intro e he hf hl
   refine ⟨_, ownFold_snoc h.fold hl hf, fun t h0 ht => ?_⟩
   rw [rowAt_put (ownOk_len ho) (by rw [he]; exact hr.2.2.2.1) h0, if_neg (by rw [he]; exact ht)]
 cases d with
 | issue k1 h1 h2 h3 hl h4 =>
   refine put ⟨1, r.ticket, r.who, r.price⟩ rfl (ownFits_iff.2 ⟨ho, entOk_iff.2 ?_, (fitsRow_iff (.inl rfl)).2 (.inl ⟨rfl, h3⟩)⟩) hl
   dsimp only
   omega
 | offer => exact ⟨rows, h.fold, fun _ _ _ => rfl⟩
 | drop => exact ⟨rows, h.fold, fun _ _ _ => rfl⟩
 | fund => exact ⟨rows, h.fold, fun _ _ _ => rfl⟩
 | settle k d k5 hk hd ht hh hs hl hm =>
   have hdo := dealOk_iff.1 (h.deals.get hd)
   have hcap := entCap_le (rowAt rows d.ticket).face
   have hb : 0 < d.buyer := by simpa [held] using hh
   refine put ⟨2, r.ticket, d.buyer, d.price⟩ rfl (ownFits_iff.2 ⟨ho, entOk_iff.2 ?_, (fitsRow_iff (.inr (.inl rfl))).2 (.inr (.inl ⟨rfl, ?_⟩))⟩) hl <;> dsimp only
   · omega
   · rw [← ht]
     refine ⟨by omega, ?_, hdo.2.2.2.1, hdo.2.2.2.2.1.2⟩
     rw [hdo.2.2.1]; omega
 | enter k6 h1 h2 h3 hl =>
   refine put ⟨3, r.ticket, r.user, 0⟩ rfl (ownFits_iff.2 ⟨ho, entOk_iff.2 ?_, (fitsRow_iff (.inr (.inr rfl))).2 (.inr (.inr ⟨rfl, h1, h2⟩))⟩) hl
   dsimp only
   omega
theorem DoneBy.apart {m x : Mkt} {rows : List Row} {r : Req} (h : MOk m rows) (d : DoneBy m rows r x) (e : Eff m x) {t : Int} (ht : t ≠ r.ticket) : dealOf m.deals t = dealOf x.deals t := by
 obtain ⟨rows', _, hx⟩ := e.rows
 refine dealOf_same h.deals hx fun y hy => ?_
 cases d with
 | issue => exact Iff.rfl
 | offer =>
   rw [insertDeal_mem]
   constructor
   · exact .inr
   · rintro (rfl | h)
     · exact absurd hy.symm ht
     · exact h
 | drop k d k3 h1 hk hd hdt => exact (erase_mem hd (by rw [hdt, hy]; exact ht)).symm
 | fund k d k4 hk hd hdt => exact (set_mem hd (by rw [hdt, hy]; exact ht) (by dsimp only; rw [hdt, hy]; exact ht)).symm
 | settle k d k5 hk hd hdt => exact (erase_mem hd (by rw [hdt, hy]; exact ht)).symm
 | enter => exact Iff.rfl
def ticks : Nat → Mkt → Option Mkt
 | 0, m => some m
 | n + 1, m => if m.clock = 99999 then none else ticks n (tick m)
end Go.Proofs.YtnnoiagommiapaaGreat.Sw
namespace Go.Proofs.YtnnoiagommiapaaGreat.Sw
open Go.RowKit (wrap64)
def anyFork (a b : List Head) : Bool := a.any fun x => b.any fun y => hedFork x y
def newOk (p : List Int) : Bool := monOk p && decide (monSum p ≤ 100000)
end Go.Proofs.YtnnoiagommiapaaGreat.Sw
namespace Go.Proofs.YtnnoiagommiapaaGreat
open Go.RowKit Go
set_option maxHeartbeats 400000
def marks : Int → Nat → List Int
 | _, 0 => []
 | k, n + 1 => k :: marks (k + 1) n
theorem marks_len : ∀ (n : Nat) (k : Int), (marks k n).length = n
 | 0, _ => rfl
 | n + 1, k => by rw [marks, List.length_cons, marks_len n]
theorem marks_at : ∀ (n j : Nat) (k : Int), j < n → (marks k n)[j]? = some (k + j)
 | 0, j, k, h => absurd h (Nat.not_lt_zero _)
 | n + 1, 0, k, _ => by simp [marks]
 | n + 1, j + 1, k, h => by
   rw [marks, List.getElem?_cons_succ, marks_at n j (k + 1) (by omega)]
   congr 1; omega
end Go.Proofs.YtnnoiagommiapaaGreat
namespace Go.Proofs.YtnnoiagommiapaaGreat
open Go.Shelf Go.Sort Go.RowKit Go
set_option maxHeartbeats 1000000
def sortRen : Ren := Ren.mk (fun x => match x with
 | 189 => 258
 | 125 => 282
 | 257 => 281
 | 128 => 299
 | 129 => 300
 | 294 => 290
 | 295 => 291
 | 296 => 292
 | 297 => 293
 | 298 => 294
 | 299 => 295
 | 216 => 296
 | 300 => 297
 | 301 => 298
 | 328 => 304
 | 329 => 305
 | 330 => 306
 | 331 => 307
 | 332 => 308
 | 215 => 309
 | 343 => 310
 | n => n)
 (fun x => match x with
 | 28 => 22
 | 3 => 3
 | 46 => 264
 | 0 => 0
 | 51 => 278
 | 53 => 280
 | 4 => 4
 | 183 => 271
 | 182 => 270
 | 131 => 267
 | 5 => 5
 | 9 => 9
 | 218 => 282
 | 222 => 286
 | 228 => 288
 | 229 => 289
 | n => n)
 (fun n => n)
end Go.Proofs.YtnnoiagommiapaaGreat
namespace Go.Proofs.YtnnoiagommiapaaGreat
open Go.ChangeShapes Go.WideShapes Go.ChangeAt Go.RowKit Go
theorem own_knob : ownKnob Tryz.prog.godebug = none := by kernel_rfl
theorem laid_out : laidOutB Tryz.prog = true := by kernel_rfl
end Go.Proofs.YtnnoiagommiapaaGreat
namespace Go.Proofs.YtnnoiagommiapaaGreat
open Go.RowKit Go
set_option maxHeartbeats 400000
theorem swInts_c (A : Option Addr) (c n : Nat) (xs : List Int) (B : Option Addr) (d m : Nat) (ys : List Int) (w : World) (hxs : RI w 0 A c n xs) (hys : RI w 0 B d m ys) : Calls Tryz.prog 95 #[.slice A n c, .slice B m d] w fun E w' => E = .returned (.bool (decide (xs = ys))) ∧ Ex w w' := by
 have hl := Lib.hid hxs.1
 have hl' := Lib.hid hys.1
 have hbig : n ≤ 9223372036854775807 := by have := hxs.2.le; have := hxs.2.cap; unfold maxLen at this; omega
 by_cases hnm : n = m
 case neg =>
   have hb : ((n : Int) == m) = false := by simp; omega
   have e : decide (xs = ys) = false := by
     rw [decide_eq_false_iff_not]; rintro rfl
     have := hl.out; have := hl'.out; omega
   rw [e]; clear e
   go_enter Tryz.func95, Tryz.ntmps95
   go_wp2_with fail
   go_ret
   exact ⟨rfl, ext_⟩
 subst hnm
 go_enter Tryz.func95, Tryz.ntmps95
 go_wp2_with fail
 go_loopw [5] (fun i wr => ∃ k : Nat, k ≤ n ∧ i = .int .i64 k ∧ Ex w wr ∧ decide (xs = ys) = decide (xs.drop k = ys.drop k)) (fun i _ => n - (intOf i).toNat)
 case atStart => exact ⟨0, Nat.zero_le _, rfl, Ch.refl _ _, rfl⟩
 case round =>
   obtain ⟨k, hk, rfl, hb2, hrel⟩ := hrel
   have hst := Ex.rules hb2 rfl
   obtain ⟨hc2, hf2, hz2⟩ := hst
   by_cases hlt : k < n
   · obtain ⟨g, off, y, rfl, hg0, hg, hd, hy, hcy⟩ := at_I hxs hlt
     obtain ⟨g', off', z, rfl, hg0', hg', hd', hz', hcz⟩ := at_I hys hlt
     have t1 : (0 : Int) ≤ (k : Int) := by omega
     have t2 : (k : Int) < (n : Int) := by omega
     rw [hd, hd'] at hrel
     have Hrel := Lib.hid hrel
     clear hrel hd hd' hy hz'
     by_cases hyz : y = z
     · subst hyz
       go_wp2_with fail
       go_quiet ((first | fail))
       go_wp2
       go_roundw
       case rel => exact ⟨k + 1, by omega, by go_num, ext_, by rw [Hrel.out]; simp⟩
       case measure => simp [intOf]; omega
     · go_wp2_with fail
       go_quiet ((first | fail))
       go_wp2
       go_ret
       exact ⟨ret_b (by rw [Hrel.out]; simp [hyz]), ext_⟩
   · have Hrel := Lib.hid hrel; clear hrel
     go_wp2_with fail
     go_ret
     refine ⟨ret_b ?_, ext_⟩
     rw [Hrel.out, List.drop_of_length_le (by have := hl.out; omega), List.drop_of_length_le (by have := hl'.out; omega)]
     simp
theorem swOk_c (w : World) : Calls Tryz.prog 32 #[] w fun E w' => E = .returned (.bool true) ∧ w = w' := by
 have h1 : Sw.mixOk 1 = true := rfl
 go_enter Tryz.func32, Tryz.ntmps32
 go_wp2_with (first | (go_at_call 102; refine (iMixOk_c _ _).mono ?_; rintro E w' ⟨rfl, rfl⟩))
 go_ret
 exact ⟨ret_b (by simp [h1]), rfl⟩
end Go.Proofs.YtnnoiagommiapaaGreat
