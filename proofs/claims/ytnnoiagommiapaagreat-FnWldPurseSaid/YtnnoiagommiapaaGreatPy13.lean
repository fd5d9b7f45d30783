/- Texts joined: Rows2, Mon1, OpenB. -/
import Derived.Test.YtnnoiagommiapaaGreatPy10
import Derived.Test.YtnnoiagommiapaaGreatPy9
set_option maxRecDepth 100000
set_option linter.unusedSimpArgs false
set_option linter.unusedVariables false
namespace Go.Proofs.YtnnoiagommiapaaGreat
open Go.RowKit Go
set_option maxHeartbeats 400000
theorem at_OR {w : World} {lo c n k : Nat} {A : Option Addr} {xs : List Sw.Row} (h : OwR w lo A c n xs) (hk : k < n) :
   ∃ g x, A = some ⟨g, 0, none⟩ ∧ lo ≤ g ∧ g < w.heap.size ∧ xs[k]? = some x ∧ w.cell? ⟨g, k * 3, none⟩ = some (.int .i64 x.who) ∧ w.cell? ⟨g, k * 3 + 1, none⟩ = some (.int .i64 x.face) ∧
     w.cell? ⟨g, k * 3 + 2, none⟩ = some (.bool x.used) ∧ (∀ i, w.frozen? ⟨g, i, none⟩ = false) := by
 obtain ⟨g, x, h1, h2, h3, h4, h5, h6⟩ := Ow.at_ h (fun _ => rfl) hk
 exact ⟨g, x, h1, h2, h3, h4, by simpa using h5 0 _ (by omega) rfl, h5 1 _ (by omega) rfl, h5 2 _ (by omega) rfl, h6⟩
theorem sNew_c (w : World) : Calls Tryz.prog 221 #[] w fun E w' => ∃ A, E = .returned (.slice A 8 8) ∧ OwR w' w.heap.size A 8 8 Sw.rows0 ∧ Ex w w' := by
 have hmk : ∀ w, (Instr.makeSlice 102 (.int .i64 8) (.int .i64 8)).run Tryz.prog w = .ok (.slice (some ⟨w.heap.size, 0, none⟩) 8 8) (w.alloc (.cells (Sw.rows0.flatMap Sw.Row.enc).toArray 109)) := fun _ => by kernel_rfl
 go_enter Tryz.func221, Tryz.ntmps221
 go_wp2
 go_ret
 exact ⟨_, rfl, Ow.new _ rfl rfl rfl (fun _ => rfl) (Nat.le_refl _) (by omega), ext_⟩
theorem OR_set0 {w : World} {lo c n k g : Nat} {A : Option Addr} {xs : List Sw.Row} (h : OwR w lo A c n xs) (hA : A = some ⟨g, 0, none⟩) {a b : Int} {u : Bool} (hx : xs[k]? = some ⟨a, b, u⟩) (v : Int) :
   OwR (w.setCell ⟨g, k * 3, none⟩ (.int .i64 v)) lo A c n (xs.set k ⟨v, b, u⟩) := by
 have := Ow.set h (fun _ => rfl) (j := 0) (u := .int .i64 v) hA hx (by omega) (y := ⟨v, b, u⟩) rfl
 simpa using this
theorem OR_set1 {w : World} {lo c n k g : Nat} {A : Option Addr} {xs : List Sw.Row} (h : OwR w lo A c n xs) (hA : A = some ⟨g, 0, none⟩) {a b : Int} {u : Bool} (hx : xs[k]? = some ⟨a, b, u⟩) (v : Int) :
   OwR (w.setCell ⟨g, k * 3 + 1, none⟩ (.int .i64 v)) lo A c n (xs.set k ⟨a, v, u⟩) :=
 Ow.set h (fun _ => rfl) (j := 1) (u := .int .i64 v) hA hx (by omega) (y := ⟨a, v, u⟩) rfl
theorem OR_set2 {w : World} {lo c n k g : Nat} {A : Option Addr} {xs : List Sw.Row} (h : OwR w lo A c n xs) (hA : A = some ⟨g, 0, none⟩) {a b : Int} {u : Bool} (hx : xs[k]? = some ⟨a, b, u⟩) (v : Bool) :
   OwR (w.setCell ⟨g, k * 3 + 2, none⟩ (.bool v)) lo A c n (xs.set k ⟨a, b, v⟩) :=
 Ow.set h (fun _ => rfl) (j := 2) (u := .bool v) hA hx (by omega) (y := ⟨a, b, v⟩) rfl
theorem set_at {α : Type} {xs : List α} {k : Nat} {x y : α} (h : xs[k]? = some x) : (xs.set k y)[k]? = some y := by
 have hk := (List.getElem?_eq_some_iff.1 h).1
 simp [hk]
theorem fits_facts {xs : List Sw.Row} {e : Sw.Ent} (h : Sw.ownFits xs e = true) : xs.length = 8 ∧ 0 ≤ e.ticket ∧ e.ticket < 8 ∧ (e.kind = 1 ∨ e.kind = 2 ∨ e.kind = 3) := by
 simp only [Sw.ownFits, Bool.and_eq_true, Sw.ownOk, Sw.entOk, Sw.inR, decide_eq_true_eq] at h
 obtain ⟨⟨⟨_, h1⟩, ⟨⟨h2, h3⟩, h4, h5⟩, h6⟩, h7⟩ := h
 refine ⟨h1, h2, by omega, ?_⟩
 split at h6
 · exact .inl ‹_›
 · split at h6
   · exact .inr (.inl ‹_›)
   · simp at h6; exact .inr (.inr h6.1)
theorem fits_fresh {xs : List Sw.Row} {e : Sw.Ent} {t : Nat} {a b : Int} {u : Bool} (h : Sw.ownFits xs e = true) (hk : e.kind = 1) (ht : e.ticket = t) (hx : xs[t]? = some ⟨a, b, u⟩) : u = false := by
 simp only [Sw.ownFits, Bool.and_eq_true, Sw.ownOk, Sw.fitsRow, hk, Sw.rowAt, ht, Int.toNat_natCast, List.getD_eq_getElem?_getD, hx, Option.getD_some, if_true, decide_eq_true_eq] at h
 obtain ⟨⟨⟨h1, _⟩, _⟩, h2⟩ := h
 have := List.all_eq_true.1 h1 _ (List.mem_of_getElem? hx)
 simp [Sw.rowOk, Sw.inR] at this
 rcases this with h | h
 · exact h.2
 · omega
theorem put_eq {xs : List Sw.Row} {e : Sw.Ent} {t : Nat} {x : Sw.Row} (h : Sw.ownFits xs e = true) (ht : e.ticket = t) (hx : xs[t]? = some x) : Sw.ownPut xs e = xs.set t (Sw.putRow x e) := by
 simp [Sw.ownPut, h, Sw.putRows, Sw.rowAt, ht, hx]
theorem sOwnPut_c (A : Option Addr) (c n : Nat) (xs : List Sw.Row) (e : Sw.Ent) (w : World) (hxs : RR w 0 A c n xs) (hn : n ≤ 4194304) : Calls Tryz.prog 222 #[.slice A n c, .agg #[.int .i64 e.kind, .int .i64 e.ticket, .int .i64 e.who, .int .i64 e.price]] w fun E w' => ∃ A' c', E = .returned (.tuple #[.slice A' n c', .bool (Sw.ownFits xs e)]) ∧ OwR w' w.heap.size A' c' n (Sw.ownPut xs e) ∧ Ex w w' := by
 by_cases hfit : Sw.ownFits xs e = true
 · have hl := Lib.hid hxs.1
   obtain ⟨h8, t0, t1, hk⟩ := fits_facts hfit
   obtain ⟨t, ht⟩ := Int.eq_ofNat_of_zero_le t0
   have e0 : e.ticket.toNat = t := by omega
   have Ht := Lib.hid ht
   have htn : t < n := by have := hl.out; omega
   have hn8 : n = 8 := by have := hl.out; omega
   subst hn8
   have Hk := Lib.hid hk
   have H8 := Lib.hid h8
   clear ht hk h8
   have key : ∀ (b1 b2 : Bool), (e.kind == 1) = b1 → (e.kind == 2) = b2 → Calls Tryz.prog 222 #[.slice A 8 c, .agg #[.int .i64 e.kind, .int .i64 e.ticket, .int .i64 e.who, .int .i64 e.price]] w fun E w' => ∃ A' c', E = .returned (.tuple #[.slice A' 8 c', .bool (Sw.ownFits xs e)]) ∧ OwR w' w.heap.size A' c' 8 (Sw.ownPut xs e) ∧ Ex w w' := by
     intro b1 b2 hb1 hb2
     go_enter Tryz.func222, Tryz.ntmps222
     go_wp2_with (first | (at_builtin; apply wpList_app (lo := w.heap.size + 1) el_R one_R rfl rfl rfl rfl; (first | assumption | exact Ow.nil _ _ | (apply Ow.keep; assumption; exact kf_) | (refine own_)); (first | (exact rd_)); omega; exact sz_; intro A1 c1 w2 ho1 hch1 hat1 hex1 hlow1; have hb := hex1 (fun _ => False) w (by exact ext_) (by exact sz_); have hz := hch1.size; (try simp only [zq_] at hz); obtain ⟨hc, hf⟩ := low_rules hlow1; clear hlow1 hex1))
     simp only [Nat.zero_add, List.nil_append] at ho1
     apply Calls.mono; apply sOwnFits_c; (first | assumption | (exact rd_) | omega); rintro E w3 ⟨rfl, hb3⟩; have hst := Ex.rules hb3 rfl; obtain ⟨hc3, hf3, hz3⟩ := hst
     have ho3 := Ow.keep ho1 (KF.ex hb3 (KF.refl _ _))
     obtain ⟨g, x, hA, hlo, hlt, hx, c0, c1, c2, hfz⟩ := at_OR ho3 htn
     obtain ⟨ya, yb, yu⟩ := x
     have Hx := Lib.hid hx
     have hlo' : w.heap.size ≤ g := by omega
     clear hx
     subst hA
     dsimp only at c0 c1 c2
     cases b1 with
     | true =>
       go_wp2_with fail
       go_ret2
       refine ⟨_, _, by rw [hfit]; rfl, ?_, ext_⟩
       have k1 : e.kind = 1 := by simpa using hb1
       rw [put_eq hfit Ht.out Hx.out]
       have hu := fits_fresh hfit k1 Ht.out Hx.out
       subst hu
       have r := OR_set2 (OR_set1 (OR_set0 ho3 rfl Hx.out e.who) rfl (set_at Hx.out) e.price) rfl (set_at (set_at Hx.out)) false
       simp only [List.set_set] at r
       simp only [Sw.putRow, k1, if_true]
       exact r.less (by omega)
     | false =>
       have k1 : ¬ e.kind = 1 := by simpa using hb1
       cases b2 with
       | true =>
         go_wp2_with fail
         go_ret2
         refine ⟨_, _, by rw [hfit]; rfl, ?_, ext_⟩
         have k2 : e.kind = 2 := by simpa using hb2
         rw [put_eq hfit Ht.out Hx.out]
         have r := OR_set0 ho3 rfl Hx.out e.who
         simp only [Sw.putRow, if_neg k1, k2, if_true]
         exact r.less (by omega)
       | false =>
         go_wp2_with fail
         go_ret2
         refine ⟨_, _, by rw [hfit]; rfl, ?_, ext_⟩
         have k2 : ¬ e.kind = 2 := by simpa using hb2
         rw [put_eq hfit Ht.out Hx.out]
         have r := OR_set2 ho3 rfl Hx.out true
         simp only [Sw.putRow, if_neg k1, if_neg k2]
         exact r.less (by omega)
   exact key _ _ rfl rfl
 · have hf0 : Sw.ownFits xs e = false := by simpa using hfit
   go_enter Tryz.func222, Tryz.ntmps222
   go_wp2_with (first | (at_builtin; apply wpList_app (lo := w.heap.size + 1) el_R one_R rfl rfl rfl rfl; (first | assumption | exact Ow.nil _ _ | (apply Ow.keep; assumption; exact kf_) | (refine own_)); (first | (exact rd_)); omega; exact sz_; intro A1 c1 w2 ho1 hch1 hat1 hex1 hlow1; have hb := hex1 (fun _ => False) w (by exact ext_) (by exact sz_); have hz := hch1.size; (try simp only [zq_] at hz); obtain ⟨hc, hf⟩ := low_rules hlow1; clear hlow1 hex1) | (go_at_call 260; apply Calls.mono; apply sOwnFits_c; (exact rd_); rintro E w1 ⟨rfl, hb⟩; obtain ⟨hc, hf, hz⟩ := xy hb))
   go_ret2
   refine ⟨_, _, by rw [hf0]; rfl, ?_, ext_⟩
   rw [show Sw.ownPut xs e = xs from by simp [Sw.ownPut, hf0]]
   simp only [Nat.zero_add, List.nil_append] at ho1
   refine Ow.less ?_ (show w.heap.size ≤ w.heap.size + 1 by omega)
   apply Ow.keep ho1; (exact kf_)
set_option maxHeartbeats 400000
theorem sumFrom_cons (s x : Int) (xs : List Int) : Sw.sumFrom s (x :: xs) = Sw.sumFrom (wrap64 (s + x)) xs := rfl
theorem heldFrom_cons (s : Int) (d : Sw.Deal) (ds : List Sw.Deal) : Sw.heldFrom s (d :: ds) = Sw.heldFrom (Sw.heldStep s d) ds := rfl
theorem heldStep_y {s : Int} {d : Sw.Deal} (h : 0 < d.buyer) : Sw.heldStep s d = wrap64 (s + d.price) := by simp [Sw.heldStep, Sw.held, h]
theorem heldStep_n {s : Int} {d : Sw.Deal} (h : ¬ 0 < d.buyer) : Sw.heldStep s d = s := by simp [Sw.heldStep, Sw.held, h]
theorem sMonSum_c (A : Option Addr) (c n : Nat) (xs : List Int) (w : World) (hxs : RI w 0 A c n xs) : Calls Tryz.prog 104 #[.slice A n c] w fun E w' => E = .returned (.int .i64 (Sw.monSum xs)) ∧ w = w' := by
 have hl := Lib.hid hxs.1
 have hbig := Rs.big hxs
 go_enter Tryz.func104, Tryz.ntmps104
 go_wp2
 go_loop [3, 4] (fun v i => ∃ (k : Nat) (s : Int), k ≤ n ∧ i = .int .i64 k ∧ v = .int .i64 s ∧ Sw.monSum xs = Sw.sumFrom s (xs.drop k)) (fun _ i => n - (intOf i).toNat)
 case atStart => exact ⟨0, 0, Nat.zero_le _, rfl, rfl, rfl⟩
 case round =>
   obtain ⟨k, s, hk, rfl, rfl, hrel⟩ := hrel
   by_cases hlt : k < n
   · obtain ⟨g, off, y, rfl, hg0, hg, hd, hy, hc⟩ := at_I hxs hlt
     rw [hd, sumFrom_cons] at hrel
     have Hrel := Lib.hid hrel; clear hrel hd hy
     go_wp2
     go_round
     case rel => exact ⟨k + 1, _, by omega, by go_num, rfl, Hrel.out⟩
     case measure => simp [intOf]; omega
   · have Hrel := Lib.hid hrel; clear hrel
     go_wp2
     go_ret
     refine ⟨ret_i ?_, rfl⟩
     rw [Hrel.out, List.drop_of_length_le (by have := hl.out; omega)]
     rfl
theorem iMonSum_c (A : Option Addr) (c n : Nat) (xs : List Int) (w : World) (hxs : RI w 0 A c n xs) : Calls Tryz.prog 37 #[.slice A n c] w fun E w' => E = .returned (.int .i64 (Sw.monSum xs)) ∧ w = w' := by
 have hl := Lib.hid hxs.1
 have hbig := Rs.big hxs
 go_enter Tryz.func37, Tryz.ntmps37
 go_wp2
 go_loop [3, 8] (fun v i => ∃ (k : Nat) (s : Int), k ≤ n ∧ i = .int .i64 k ∧ v = .int .i64 s ∧ Sw.monSum xs = Sw.sumFrom s (xs.drop k)) (fun _ i => n - (intOf i).toNat)
 case atStart => exact ⟨0, 0, Nat.zero_le _, rfl, rfl, rfl⟩
 case round =>
   obtain ⟨k, s, hk, rfl, rfl, hrel⟩ := hrel
   by_cases hlt : k < n
   · obtain ⟨g, off, y, rfl, hg0, hg, hd, hy, hc⟩ := at_I hxs hlt
     rw [hd, sumFrom_cons] at hrel
     have Hrel := Lib.hid hrel; clear hrel hd hy
     go_wp2
     go_round
     case rel => exact ⟨k + 1, _, by omega, by go_num, rfl, Hrel.out⟩
     case measure => simp [intOf]; omega
   · have Hrel := Lib.hid hrel; clear hrel
     go_wp2
     go_ret
     refine ⟨ret_i ?_, rfl⟩
     rw [Hrel.out, List.drop_of_length_le (by have := hl.out; omega)]
     rfl
theorem iHeld_c (d : Sw.Deal) (w : World) : Calls Tryz.prog 106 #[.agg #[.int .i64 d.ticket, .int .i64 d.seller, .int .i64 d.price, .int .i64 d.buyer, .int .i64 d.due]] w fun E w' => E = .returned (.bool (Sw.held d)) ∧ Ex w w' := by
 go_enter Tryz.func106, Tryz.ntmps106
 go_wp2_with fail
 go_ret
 exact ⟨rfl, ext_⟩
theorem sMktHeld_c (aL : Option Addr) (aLc aLn : Nat) (aP : Option Addr) (aPc aPn : Nat) (aD : Option Addr) (aDc aDn : Nat) (aN : Option Addr) (aNc aNn : Nat) (aS : Option Addr) (aSc aSn : Nat) (m : Sw.Mkt) (w : World) (hm : RM w 0 aL aLc aLn aP aPc aPn aD aDc aDn aN aNc aNn aS aSc aSn m) : Calls Tryz.prog 105 #[.agg #[.slice aL aLn aLc, .slice aP aPn aPc, .slice aD aDn aDc, .int .i64 m.clock, .slice aN aNn aNc, .slice aS aSn aSc]] w fun E w' => E = .returned (.int .i64 (Sw.mktHeld m)) ∧ Ex w w' := by
 have hxs := hm.deals
 clear hm
 have hl := Lib.hid hxs.1
 have hbig := Rs.big hxs
 go_enter Tryz.func105, Tryz.ntmps105
 go_wp2_with fail
 go_loop [3, 4] (fun v i => ∃ (k : Nat) (s : Int), k ≤ aDn ∧ i = .int .i64 k ∧ v = .int .i64 s ∧ Sw.mktHeld m = Sw.heldFrom s (m.deals.drop k)) (fun _ i => aDn - (intOf i).toNat)
 case atStart => exact ⟨0, 0, Nat.zero_le _, rfl, rfl, rfl⟩
 case round =>
   obtain ⟨k, s, hk, rfl, rfl, hrel⟩ := hrel
   by_cases hlt : k < aDn
   · obtain ⟨g, off, y, rfl, hg0, hg, hd, hy, q0, q1, q2, q3, q4⟩ := at_D hxs hlt
     rw [hd, heldFrom_cons] at hrel
     have Hrel := Lib.hid hrel; clear hrel hd hy
     by_cases hb : 0 < y.buyer
     · go_wp2
       go_round
       case rel => exact ⟨k + 1, _, by omega, by go_num, rfl, by rw [Hrel.out, heldStep_y hb]⟩
       case measure => simp [intOf]; omega
     · go_wp2
       go_round
       case rel => exact ⟨k + 1, _, by omega, by go_num, rfl, by rw [Hrel.out, heldStep_n hb]⟩
       case measure => simp [intOf]; omega
   · have Hrel := Lib.hid hrel; clear hrel
     go_wp2
     go_ret
     refine ⟨ret_i ?_, ext_⟩
     rw [Hrel.out, List.drop_of_length_le (by have := hl.out; omega)]
     rfl
theorem iMktHeld_c (aL : Option Addr) (aLc aLn : Nat) (aP : Option Addr) (aPc aPn : Nat) (aD : Option Addr) (aDc aDn : Nat) (aN : Option Addr) (aNc aNn : Nat) (aS : Option Addr) (aSc aSn : Nat) (m : Sw.Mkt) (w : World) (hm : RM w 0 aL aLc aLn aP aPc aPn aD aDc aDn aN aNc aNn aS aSc aSn m) : Calls Tryz.prog 38 #[.agg #[.slice aL aLn aLc, .slice aP aPn aPc, .slice aD aDn aDc, .int .i64 m.clock, .slice aN aNn aNc, .slice aS aSn aSc]] w fun E w' => E = .returned (.int .i64 (Sw.mktHeld m)) ∧ Ex w w' := by
 have hxs := hm.deals
 clear hm
 have hl := Lib.hid hxs.1
 have hbig := Rs.big hxs
 go_enter Tryz.func38, Tryz.ntmps38
 go_wp2_with fail
 go_loopw [3, 9] (fun v i wr => ∃ (k : Nat) (s : Int), k ≤ aDn ∧ i = .int .i64 k ∧ v = .int .i64 s ∧ Ex w wr ∧ Sw.mktHeld m = Sw.heldFrom s (m.deals.drop k)) (fun _ i _ => aDn - (intOf i).toNat)
 case atStart => exact ⟨0, 0, Nat.zero_le _, rfl, rfl, ext_, rfl⟩
 case round =>
   obtain ⟨k, s, hk, rfl, rfl, hb2, hrel⟩ := hrel
   have hst := Ex.rules hb2 rfl
   obtain ⟨hc2, hf2, hz2⟩ := hst
   by_cases hlt : k < aDn
   · obtain ⟨g, off, y, rfl, hg0, hg, hd, hy, q0, q1, q2, q3, q4⟩ := at_D hxs hlt
     rw [hd, heldFrom_cons] at hrel
     have Hrel := Lib.hid hrel; clear hrel hd hy
     cases hb : Sw.held y with
     | true =>
       go_wp2_with (go_at_call 106; apply Calls.mono; apply (iHeld_c y); rintro E w1 ⟨rfl, hb⟩; obtain ⟨hc, hf, hz⟩ := xy hb)
       go_roundw
       case rel => exact ⟨k + 1, _, by omega, by go_num, rfl, ext_, by rw [Hrel.out, Sw.heldStep, if_pos (by assumption)]⟩
       case measure => simp [intOf]; omega
     | false =>
       go_wp2_with (go_at_call 106; apply Calls.mono; apply (iHeld_c y); rintro E w1 ⟨rfl, hb⟩; obtain ⟨hc, hf, hz⟩ := xy hb)
       go_roundw
       case rel => exact ⟨k + 1, _, by omega, by go_num, rfl, ext_, by rw [Hrel.out, Sw.heldStep, if_neg (by simp [*])]⟩
       case measure => simp [intOf]; omega
   · have Hrel := Lib.hid hrel; clear hrel
     go_wp2_with fail
     go_ret
     refine ⟨ret_i ?_, ext_⟩
     rw [Hrel.out, List.drop_of_length_le (by have := hl.out; omega)]
     rfl
theorem sWldMoney_c (aF : Option Addr) (aFc aFn : Nat) (aL : Option Addr) (aLc aLn : Nat) (aP : Option Addr) (aPc aPn : Nat) (aD : Option Addr) (aDc aDn : Nat) (aN : Option Addr) (aNc aNn : Nat) (aS : Option Addr) (aSc aSn : Nat) (aI : Option Addr) (aIc aIn : Nat) (aG : Option Addr) (aGc aGn : Nat) (aB : Option Addr) (aBc aBn : Nat) (x : Sw.World) (w : World) (hx : RW w 0 aF aFc aFn aL aLc aLn aP aPc aPn aD aDc aDn aN aNc aNn aS aSc aSn aI aIc aIn aG aGc aGn aB aBc aBn x) : Calls Tryz.prog 36 #[.agg #[.slice aF aFn aFc, .slice aL aLn aLc, .slice aP aPn aPc, .slice aD aDn aDc, .int .i64 x.market.clock, .slice aN aNn aNc, .slice aS aSn aSc, .slice aI aIn aIc, .slice aG aGn aGc, .slice aB aBn aBc]] w fun E w' => E = .returned (.int .i64 (Sw.wldMoney x)) ∧ Ex w w' := by
 have hm := hx.mkt
 have hp := hm.purses
 clear hx
 go_enter Tryz.func36, Tryz.ntmps36
 go_wp2_with (first | (go_at_call 104; apply Calls.mono; apply sMonSum_c; (exact rd_); rintro E w' ⟨rfl, rfl⟩) | (go_at_call 105; apply Calls.mono; apply sMktHeld_c; ((first | (apply RM.at0; assumption)); exact kf_); rintro E w1 ⟨rfl, hb⟩; obtain ⟨hc, hf, hz⟩ := xy hb))
 try (refine wn_ fun W0 hb0 hc0 hf0 hz0 => ?_; go_region_held3 (fun w' => Held W0 w') ((exact hq_)) ((first | (go_at_call 104; apply Calls.mono; apply sMonSum_c; (exact rd_); rintro E w' ⟨rfl, rfl⟩) | (go_at_call 105; apply Calls.mono; apply sMktHeld_c; ((first | (apply RM.at0; assumption)); exact kf_); rintro E w1 ⟨rfl, hb⟩; obtain ⟨hc, hf, hz⟩ := xy hb))); all_goals (obtain ⟨hb, hc, hf, hz⟩ := xh (by assumption : Held W0 _)))
 go_wp2
 go_ret
 exact ⟨ret_i (IntWalk.i64_left _), ext_⟩
theorem iWldMoney_c (aF : Option Addr) (aFc aFn : Nat) (aL : Option Addr) (aLc aLn : Nat) (aP : Option Addr) (aPc aPn : Nat) (aD : Option Addr) (aDc aDn : Nat) (aN : Option Addr) (aNc aNn : Nat) (aS : Option Addr) (aSc aSn : Nat) (aI : Option Addr) (aIc aIn : Nat) (aG : Option Addr) (aGc aGn : Nat) (aB : Option Addr) (aBc aBn : Nat) (x : Sw.World) (w : World) (hx : RW w 0 aF aFc aFn aL aLc aLn aP aPc aPn aD aDc aDn aN aNc aNn aS aSc aSn aI aIc aIn aG aGc aGn aB aBc aBn x) : Calls Tryz.prog 35 #[.agg #[.slice aF aFn aFc, .slice aL aLn aLc, .slice aP aPn aPc, .slice aD aDn aDc, .int .i64 x.market.clock, .slice aN aNn aNc, .slice aS aSn aSc, .slice aI aIn aIc, .slice aG aGn aGc, .slice aB aBn aBc]] w fun E w' => E = .returned (.int .i64 (Sw.wldMoney x)) ∧ Ex w w' := by
 have hm := hx.mkt
 have hp := hm.purses
 clear hx
 go_enter Tryz.func35, Tryz.ntmps35
 go_wp2_with (first | (go_at_call 37; apply Calls.mono; apply iMonSum_c; (exact rd_); rintro E w' ⟨rfl, rfl⟩) | (go_at_call 38; apply Calls.mono; apply iMktHeld_c; ((first | (apply RM.at0; assumption)); exact kf_); rintro E w1 ⟨rfl, hb⟩; obtain ⟨hc, hf, hz⟩ := xy hb))
 try (refine wn_ fun W0 hb0 hc0 hf0 hz0 => ?_; go_region_held3 (fun w' => Held W0 w') ((exact hq_)) ((first | (go_at_call 37; apply Calls.mono; apply iMonSum_c; (exact rd_); rintro E w' ⟨rfl, rfl⟩) | (go_at_call 38; apply Calls.mono; apply iMktHeld_c; ((first | (apply RM.at0; assumption)); exact kf_); rintro E w1 ⟨rfl, hb⟩; obtain ⟨hc, hf, hz⟩ := xy hb))); all_goals (obtain ⟨hb, hc, hf, hz⟩ := xh (by assumption : Held W0 _)))
 go_wp2
 go_ret
 exact ⟨ret_i (IntWalk.i64_left _), ext_⟩
end Go.Proofs.YtnnoiagommiapaaGreat
namespace Go.Proofs.YtnnoiagommiapaaGreat
open Go.ChangeShapes Go.WideShapes Go.ChangeAt Go.RowKit Go
section
variable {H : Type} {enc : TypeId × Value → H} {W : World}
theorem cells_B : Tryz.prog.cellsOf 5 = 1 := by kernel_rfl
theorem o_bytes {n : Nat} {cs : List Value} {y : DataW H × List MemPlace} (h : DataW.trod enc Tryz.prog W 0 (fun _ => true) true n 64 cs = some y) : ∃ A c n xs, cs = [.slice A n c] ∧ RB W 0 A c n xs ∧ ∀ x ∈ xs, 0 ≤ x ∧ x ≤ 255 :=
 rs_of_trod (ec := encB) (sz := 1) (Q := fun x => 0 ≤ x ∧ x ≤ 255) Tryz.underlying64 cells_B (by omega) (fun _ => rfl) (fun n cs y h => by
   obtain ⟨a, rfl, _, hw⟩ := DataW.trod_int Tryz.underlying5 h
   refine ⟨a, rfl, ?_⟩
   simp only [Lit.wf, Bool.and_eq_true, decide_eq_true_eq] at hw
   exact hw) h
end
end Go.Proofs.YtnnoiagommiapaaGreat
