/- Texts joined: ImpB, ImpC, Gate3, Draw3, Gate4, UpI. -/
import Derived.Test.YtnnoiagommiapaaGreatPz14
import Derived.Test.YtnnoiagommiapaaGreatPz5
import Derived.Test.YtnnoiagommiapaaGreatPz10
import Derived.Test.YtnnoiagommiapaaGreatPz12
import Derived.Test.YtnnoiagommiapaaGreatPz3
import Derived.Test.YtnnoiagommiapaaGreatPz11
set_option maxRecDepth 100000
set_option linter.unusedSimpArgs false
set_option linter.unusedVariables false
namespace Go.Proofs.YtnnoiagommiapaaGreat
open Go.RowKit Go
set_option maxHeartbeats 1000000
theorem iOwnPut_c (A : Option Addr) (c n : Nat) (xs : List Sw.Row) (e : Sw.Ent) (w : World) (hxs : RR w 0 A c n xs) (hn : n ≤ 4194304) : Calls Tryz.prog 189 #[.slice A n c, .agg #[.int .i64 e.kind, .int .i64 e.ticket, .int .i64 e.who, .int .i64 e.price]] w fun E w' => ∃ A' c', E = .returned (.tuple #[.slice A' n c', .bool (Sw.ownFits xs e)]) ∧ OwR w' w.heap.size A' c' n (Sw.ownPut xs e) ∧ Ex w w' := by
 by_cases hfit : Sw.ownFits xs e = true
 · have hl := Lib.hid hxs.1
   obtain ⟨h8, t0, t1, hk⟩ := fits_facts hfit
   obtain ⟨t, ht⟩ := Int.eq_ofNat_of_zero_le t0
   have e0 : e.ticket.toNat = t := by omega
   have Ht := Lib.hid ht
   have htn : t < n := by have := hl.out; omega
   have hn8 : n = 8 := by have := hl.out; omega
   subst hn8
   have Hk := Lib.hid hk
   have H8 := Lib.hid h8
   clear ht hk h8
   have key : ∀ (b1 b2 : Bool), (e.kind == 1) = b1 → (e.kind == 2) = b2 → Calls Tryz.prog 189 #[.slice A 8 c, .agg #[.int .i64 e.kind, .int .i64 e.ticket, .int .i64 e.who, .int .i64 e.price]] w fun E w' => ∃ A' c', E = .returned (.tuple #[.slice A' 8 c', .bool (Sw.ownFits xs e)]) ∧ OwR w' w.heap.size A' c' 8 (Sw.ownPut xs e) ∧ Ex w w' := by
     intro b1 b2 hb1 hb2
     go_enter Tryz.func189, Tryz.ntmps189
     go_wp2_with (go_at_call 236; apply Calls.mono; apply iCloneRows_c; (exact rd_); (first | assumption | omega); rintro E w1 ⟨A1, A1c, rfl, ho1, hb⟩; obtain ⟨hc, hf, hz⟩ := xy hb)
     apply Calls.mono; apply iOwnFits_c; (first | assumption | (exact rd_) | omega); rintro E w3 ⟨rfl, hb3⟩; have hst := xr hb3; (try simp only [zA, zC, zD] at hst); obtain ⟨hc3, hf3, hz3⟩ := hst
     have ho3 := Ow.keep ho1 (KF.ex hb3 (KF.refl _ _))
     obtain ⟨g, x, hA, hlo, hlt, hx, c0, c1, c2, hfz⟩ := at_OR ho3 htn
     obtain ⟨ya, yb, yu⟩ := x
     have Hx := Lib.hid hx
     have hlo' : w.heap.size + 1 ≤ g := by exact sz_
     clear hx
     subst hA
     dsimp only at c0 c1 c2
     cases b1 with
     | true =>
       have hLg : Lb w3 g (A1c * 3) := ho3.lb rfl
       go_wp2_with fail
       (refine wn_ fun W0 hb0 hc0 hf0 hz0 => ?_; have hLb : Lb W0 (g) (A1c * 3) := Lb.ex (by exact lbc_) hb0; go_region_held3 (fun w' => HeldB (g) (A1c * 3) W0 w') ((exact hqb_)) (fail); all_goals (rename HeldB (g) (A1c * 3) W0 _ => hHx; have hb := HeldB.ch hHx; obtain ⟨hc, hf, hz⟩ := xd hb; have hLb3 := HeldB.lb hHx; (repeat (first | with_reducible replace hLb3 := Lb.unset hLb3 | with_reducible replace hLb3 := Lb.undrew hLb3)); obtain ⟨hcb, hfb⟩ := Lb.rules hLb3; clear hHx))
       go_wp2
       go_ret2
       refine ⟨_, _, by rw [hfit]; rfl, ?_, ext_⟩
       have k1 : e.kind = 1 := by simpa using hb1
       rw [put_eq hfit Ht.out Hx.out]
       have hu := fits_fresh hfit k1 Ht.out Hx.out
       subst hu
       have hoW := Ow.keep ho3 (KF.ex hb0 (KF.refl _ _))
       have r := OR_set1 (OR_set0 hoW rfl Hx.out e.who) rfl (set_at Hx.out) e.price
       simp only [List.set_set] at r
       simp only [Sw.putRow, k1, if_true]
       exact (r.keep (kD (kR _ _))).less (by exact sz_)
     | false =>
       have k1 : ¬ e.kind = 1 := by simpa using hb1
       cases b2 with
       | true =>
         go_wp2_with fail
         go_ret2
         refine ⟨_, _, by rw [hfit]; rfl, ?_, ext_⟩
         have k2 : e.kind = 2 := by simpa using hb2
         rw [put_eq hfit Ht.out Hx.out]
         have r := OR_set0 ho3 rfl Hx.out e.who
         simp only [Sw.putRow, if_neg k1, k2, if_true]
         exact r.less (by exact sz_)
       | false =>
         go_wp2_with fail
         go_ret2
         refine ⟨_, _, by rw [hfit]; rfl, ?_, ext_⟩
         have k2 : ¬ e.kind = 2 := by simpa using hb2
         rw [put_eq hfit Ht.out Hx.out]
         have r := OR_set2 ho3 rfl Hx.out true
         simp only [Sw.putRow, if_neg k1, if_neg k2]
         exact r.less (by exact sz_)
   exact key _ _ rfl rfl
 · have hf0 : Sw.ownFits xs e = false := by simpa using hfit
   go_enter Tryz.func189, Tryz.ntmps189
   go_wp2_with (first | (go_at_call 236; apply Calls.mono; apply iCloneRows_c; (exact rd_); (first | assumption | omega); rintro E w1 ⟨A', c', rfl, hr, hb⟩; obtain ⟨hc, hf, hz⟩ := xy hb) | (go_at_call 237; apply Calls.mono; apply iOwnFits_c; (exact rd_); rintro E w1 ⟨rfl, hb⟩; obtain ⟨hc, hf, hz⟩ := xy hb))
   go_ret2
   refine ⟨_, _, by rw [hf0]; rfl, ?_, ext_⟩
   rw [show Sw.ownPut xs e = xs from by simp [Sw.ownPut, hf0]]
   exact (hr.keep (by (exact kf_))).less (by exact sz_)
theorem iOwnFold_c (A : Option Addr) (c n : Nat) (xs : List Sw.Ent) (w : World) (hxs : RE w 0 A c n xs) : Calls Tryz.prog 120 #[.slice A n c] w fun E w' => ∃ A' c' n', E = .returned (.tuple #[.slice A' n' c', .bool (Sw.ownFold xs).isSome]) ∧ OwR w' w.heap.size A' c' n' ((Sw.ownFold xs).getD []) ∧ Ex w w' := by
 have hl := Lib.hid hxs.1
 have hbig := Rs.big hxs
 by_cases hn : n ≤ 40
 · have hn' : decide (40 < n) = false := by simp; omega
   have hmk : ∀ w, (Instr.makeSlice 102 (.int .i64 8) (.int .i64 8)).run Tryz.prog w = .ok (.slice (some ⟨w.heap.size, 0, none⟩) 8 8) (w.alloc (.cells (Sw.rows0.flatMap Sw.Row.enc).toArray 109)) := fun _ => by kernel_rfl
   go_enter Tryz.func120, Tryz.ntmps120
   go_wp2_with fail
   go_loopw [4, 15] (fun r i wr => ∃ (k : Nat) (B : Option Addr) (d : Nat) (rows : List Sw.Row), k ≤ n ∧ i = .int .i64 k ∧ r = .slice B 8 d ∧ Ex w wr ∧ OwR wr w.heap.size B d 8 rows ∧ Sw.ownFold xs = Sw.foldFrom rows (xs.drop k)) (fun _ i _ => n - (intOf i).toNat)
   case atStart => exact ⟨0, _, _, _, Nat.zero_le _, rfl, rfl, ext_, Ow.new _ rfl rfl rfl (fun _ => rfl) (Nat.le_refl _) (by omega), by rw [Sw.ownFold, if_pos (by have := hl.out; omega)]; rfl⟩
   case round =>
     clear hmk
     obtain ⟨k, B, d, rows, hk, rfl, rfl, hb, ho, hrel⟩ := hrel
     have hst := Ex.rules hb rfl
     obtain ⟨hc, hf, hz⟩ := hst
     by_cases hlt : k < n
     · obtain ⟨g, off, y, rfl, hg0, hg, hd, hy, hc0, hc1, hc2, hc3⟩ := at_E hxs hlt
       rw [hd, Sw.foldFrom] at hrel
       have Hrel := Lib.hid hrel
       clear hd hy hrel
       cases hfit : Sw.ownFits rows y
       case false =>
         go_wp2_with (first | (go_at_call 189; apply Calls.mono; apply iOwnPut_c; (apply Ow.rs0 ho; (exact kf_)); omega; rintro E w1 ⟨A1, c1, rfl, ho1, hb1⟩; have hst := Ex.rules hb1 rfl; obtain ⟨hc1', hf1', hz1'⟩ := hst))
         go_ret2
         have hh := Hrel.out
         rw [if_neg (by simp [hfit])] at hh
         refine ⟨_, _, _, by rw [hh]; rfl, ?_, ext_⟩
         rw [hh]
         exact Ow.nil _ _
       case true =>
         go_wp2_with (first | (go_at_call 189; apply Calls.mono; apply iOwnPut_c; (apply Ow.rs0 ho; (exact kf_)); omega; rintro E w1 ⟨A1, c1, rfl, ho1, hb1⟩; have hst := Ex.rules hb1 rfl; obtain ⟨hc1', hf1', hz1'⟩ := hst))
         have hh := Hrel.out
         rw [if_pos hfit] at hh
         refine ⟨⟨k + 1, _, _, _, by omega, by go_num, rfl, ext_, ho1.less (by exact sz_), ?_⟩, by simp [intOf]; omega⟩
         rw [hh, Sw.ownPut, if_pos hfit]
     · have Hrel := Lib.hid hrel; clear hrel
       go_wp2_with fail
       go_ret2
       obtain rfl : k = n := by omega
       have hh := Hrel.out
       rw [List.drop_of_length_le (by have := hl.out; omega)] at hh
       refine ⟨_, _, _, by rw [hh]; rfl, ?_, ext_⟩
       rw [hh]
       exact ho
 · have hn' : decide (40 < n) = true := by simp; omega
   go_enter Tryz.func120, Tryz.ntmps120
   go_wp2_with fail
   go_ret2
   have hh : Sw.ownFold xs = none := by rw [Sw.ownFold, if_neg (by have := hl.out; omega)]
   refine ⟨_, _, _, by rw [hh]; rfl, ?_, ext_⟩
   rw [hh]
   exact Ow.nil _ _
set_option maxHeartbeats 1000000
def hitAt {α : Type} (p : α → Bool) (xs : List α) : Int := match xs.findIdx? p with
 | some i => i
 | none => -1
theorem hitAt_iff {α : Type} (p : α → Bool) (xs : List α) : decide (0 ≤ hitAt p xs) = xs.any p := by
 unfold hitAt
 cases h : xs.findIdx? p with
 | none =>
   rw [List.findIdx?_eq_none_iff] at h
   rw [show xs.any p = false from List.any_eq_false.2 fun x hx => by simp [h x hx]]; rfl
 | some i =>
   rw [List.findIdx?_eq_some_iff_getElem] at h
   obtain ⟨h1, h2, _⟩ := h
   rw [show xs.any p = true from List.any_eq_true.2 ⟨xs[i], List.getElem_mem h1, h2⟩]
   simp
theorem hitAt_here {α : Type} {p : α → Bool} {xs : List α} {k : Nat} {y : α} (hy : xs[k]? = some y) (h : ∀ j, j < k → ∀ z, xs[j]? = some z → p z = false) (hm : p y = true) : hitAt p xs = k := by
 unfold hitAt
 obtain ⟨hk, rfl⟩ := List.getElem?_eq_some_iff.1 hy
 have : xs.findIdx? p = some k := by
   rw [List.findIdx?_eq_some_iff_getElem]
   exact ⟨hk, hm, fun j hj => by simp [h j hj xs[j] (by simp)]⟩
 rw [this]
theorem hitAt_none {α : Type} {p : α → Bool} {xs : List α} {k : Nat} (hk : xs.length ≤ k) (h : ∀ j, j < k → ∀ z, xs[j]? = some z → p z = false) : hitAt p xs = -1 := by
 unfold hitAt
 have : xs.findIdx? p = none := by
   rw [List.findIdx?_eq_none_iff]
   intro x hx
   obtain ⟨i, hi, rfl⟩ := List.getElem_of_mem hx
   exact h i (by omega) xs[i] (by simp)
 rw [this]
theorem notHit_step {α : Type} {p : α → Bool} {xs : List α} {k : Nat} {y : α} (hy : xs[k]? = some y) (h : ∀ j, j < k → ∀ z, xs[j]? = some z → p z = false) (hm : p y = false) : ∀ j, j < k + 1 → ∀ z, xs[j]? = some z → p z = false := by
 intro j hj z hz
 rcases Nat.lt_succ_iff_lt_or_eq.1 hj with hj' | rfl
 · exact h j hj' z hz
 · rw [hy] at hz; cases hz; exact hm
def monBad (n : Int) : Bool := !Sw.inR n 0 100000
theorem iMonBad_c (x : Int) (w : World) : Calls Tryz.prog 188 #[.int .i64 x] w fun E w' => E = .returned (.bool (monBad x)) ∧ w = w' := by
 go_enter Tryz.func188, Tryz.ntmps188
 go_wp2_with (first | (go_at_call 121; refine (in_c _ _ _ _).mono ?_; rintro E w' ⟨rfl, rfl⟩))
 go_ret
 exact ⟨ret_b rfl, rfl⟩
theorem iMonBadAt_c (A : Option Addr) (c n : Nat) (xs : List Int) (w : World) (hxs : RI w 0 A c n xs) : Calls Tryz.prog 235 #[.slice A n c, .func (.func 188) #[] #[]] w fun E w' => E = .returned (.int .i64 (hitAt monBad xs)) ∧ Ex w w' := by
 have hl := Lib.hid hxs.1
 have hbig := Rs.big hxs
 go_enter Tryz.func235, Tryz.ntmps235
 go_wp2_with fail
 go_loopw [8] (fun i wr => ∃ k : Nat, k ≤ n ∧ i = .int .i64 k ∧ Ex w wr ∧ ∀ j, j < k → ∀ z, xs[j]? = some z → monBad z = false) (fun i _ => n - (intOf i).toNat)
 case atStart => exact ⟨0, Nat.zero_le _, rfl, (by exact ext_), by omega⟩
 case round =>
   obtain ⟨k, hk, rfl, hb2, hrel⟩ := hrel
   have Hrel := Lib.hid hrel; clear hrel
   have hst := xr hb2
   (try simp only [zq_] at hst)
   obtain ⟨hc2, hf2, hz2⟩ := hst
   by_cases hlt : k < n
   · obtain ⟨g, off, y, rfl, hg0, hg, hd, hy, hca0⟩ := at_I hxs hlt
     have Hy := Lib.hid hy; clear hd hy
     cases hmx : monBad y
     case true =>
       go_wp2_with (first | (go_at_call 188; refine (iMonBad_c _ _).mono ?_; rintro E w' ⟨rfl, rfl⟩))
       go_ret
       exact ⟨ret_i (hitAt_here Hy.out Hrel.out hmx).symm, (by exact ext_)⟩
     case false =>
       go_wp2_with (first | (go_at_call 188; refine (iMonBad_c _ _).mono ?_; rintro E w' ⟨rfl, rfl⟩))
       go_roundw
       case rel => exact ⟨k + 1, by omega, by go_num, (by exact ext_), notHit_step Hy.out Hrel.out hmx⟩
       case measure => simp [intOf]; omega
   · go_wp2_with fail
     go_ret
     exact ⟨ret_i (hitAt_none (by have := hl.out; omega) Hrel.out).symm, (by exact ext_)⟩
theorem iMonHasBad_c (A : Option Addr) (c n : Nat) (xs : List Int) (w : World) (hxs : RI w 0 A c n xs) : Calls Tryz.prog 187 #[.slice A n c, .func (.func 188) #[] #[]] w fun E w' => E = .returned (.bool (xs.any monBad)) ∧ Ex w w' := by
 have Hb := Lib.hid (hitAt_iff monBad xs)
 go_enter Tryz.func187, Tryz.ntmps187
 go_wp2_with (first | (go_at_call 235; apply Calls.mono; apply iMonBadAt_c; (exact rd_); rintro E w1 ⟨rfl, hb⟩; obtain ⟨hc, hf, hz⟩ := xy hb))
 go_ret
 exact ⟨ret_b Hb.out, ext_⟩
theorem any_not {α : Type} (p : α → Bool) (xs : List α) : (!xs.any (fun x => !p x)) = xs.all p := by
 rw [List.all_eq_not_any_not]
theorem iMonOk_c (A : Option Addr) (c n : Nat) (xs : List Int) (w : World) (hxs : RI w 0 A c n xs) : Calls Tryz.prog 118 #[.slice A n c] w fun E w' => E = .returned (.bool (Sw.monOk xs)) ∧ Ex w w' := by
 have hl := Lib.hid hxs.1
 have hbig := Rs.big hxs
 have e : Sw.monOk xs = (decide (n = 5) && !xs.any monBad) := by
   rw [Sw.monOk, ← hl.out, ← any_not]; rfl
 have He := Lib.hid e; clear e
 by_cases hn : n = 5
 · subst hn
   go_enter Tryz.func118, Tryz.ntmps118
   go_wp2_with (first | (go_at_call 187; apply Calls.mono; apply iMonHasBad_c; (exact rd_); rintro E w1 ⟨rfl, hb⟩; obtain ⟨hc, hf, hz⟩ := xy hb))
   go_ret
   exact ⟨ret_b (by rw [He.out]; simp), ext_⟩
 · have hb : ((n : Int) == 5) = false := by simp; omega
   go_enter Tryz.func118, Tryz.ntmps118
   go_wp2_with (first | (go_at_call 187; apply Calls.mono; apply iMonHasBad_c; (exact rd_); rintro E w1 ⟨rfl, hb⟩; obtain ⟨hc, hf, hz⟩ := xy hb))
   go_ret
   exact ⟨ret_b (by rw [He.out]; simp [hn]), ext_⟩
set_option maxHeartbeats 400000
theorem sCopy_c (t : Sw.Head) (A : Option Addr) (c n : Nat) (xs : List Int) (w : World) (hxs : RI w 0 A c n xs) (hn : n ≤ 4194304) : Calls Tryz.prog 148 #[.agg #[.int .i64 t.size, .int .i64 t.log, .int .i64 t.own, .slice A n c]] w fun E w' => ∃ A' c', E = .returned (.agg #[.int .i64 t.size, .int .i64 t.log, .int .i64 t.own, .slice A' n c']) ∧ OwI w' w.heap.size A' c' n xs ∧ Ex w w' := by
 go_enter Tryz.func148, Tryz.ntmps148
 go_wp2_with fail
 (refine wn_ fun W0 hb0 hc0 hf0 hz0 => ?_; have hLb : Lb W0 (w.heap.size + 1) 4 := Lb.ex (by exact lbc_) hb0; go_region_held3 (fun w' => HeldB (w.heap.size + 1) 4 W0 w') ((exact hqb_)) ((apply step_app (lo := W0.heap.size) el_I one_I rfl rfl rfl rfl; (first | assumption | exact Ow.nil _ _ | (apply Ow.keep; assumption; exact kf_) | (refine own_)); (first | (exact rd_)); omega; exact sz_; intro A1 c1 w2 ho1 hch1 hat1 hex1 hlow1; have hbx := hex1 (· = (w.heap.size + 1)) W0 (HeldB.ch (by assumption : HeldB (w.heap.size + 1) 4 W0 _)) (by exact sz_); have hlbx := Lb.low hlow1 (by have := hLb.lt; omega) (HeldB.lb (by assumption : HeldB (w.heap.size + 1) 4 W0 _)); clear hex1 hlow1)); all_goals (rename HeldB (w.heap.size + 1) 4 W0 _ => hHx; have hb := HeldB.ch hHx; obtain ⟨hc, hf, hz⟩ := xd hb; have hLb3 := HeldB.lb hHx; (repeat (first | with_reducible replace hLb3 := Lb.unset hLb3 | with_reducible replace hLb3 := Lb.undrew hLb3)); obtain ⟨hcb, hfb⟩ := Lb.rules hLb3; clear hHx))
 go_wp2
 refine bodyPost_ret (v := .agg #[.int .i64 t.size, .int .i64 t.log, .int .i64 t.own, .slice A1 n c1]) (by simp [results, Tryz.results148, go_sem, *]) rfl ?_
 refine ⟨A1, c1, rfl, ?_, ?_⟩
 · rw [List.nil_append, Nat.zero_add] at ho1
   exact (ho1.keep (by (exact kf_))).less (by omega)
 · exact ext_
theorem sGatNew_c (w : World) : Calls Tryz.prog 174 #[] w fun E w' => E = .returned (.agg #[.int .i64 ((Sw.hedOf []).getD Sw.headZ).size, .int .i64 ((Sw.hedOf []).getD Sw.headZ).log, .int .i64 ((Sw.hedOf []).getD Sw.headZ).own, .slice none 0 0]) ∧ Ex w w' := by
 go_enter Tryz.func174, Tryz.ntmps174
 go_wp2_with (first | (go_at_call 204; apply Calls.mono; apply (sHedOf_c (xs := [])); (refine Rs.new [] (by simp only [World.size_alloc]) rfl rfl (fun _ => rfl) (by omega)); rintro E w1 ⟨rfl, hb⟩; obtain ⟨hc, hf, hz⟩ := xy hb))
 refine bodyPost_ret (v := .agg #[.int .i64 ((Sw.hedOf []).getD Sw.headZ).size, .int .i64 ((Sw.hedOf []).getD Sw.headZ).log, .int .i64 ((Sw.hedOf []).getD Sw.headZ).own, .slice none 0 0]) (by simp [results, Tryz.results174, go_sem, *]) rfl ?_
 exact ⟨rfl, ext_⟩
set_option maxHeartbeats 4000000
def sel3 (v : Nat) (a b c : Int) : Int := if v = 0 then a else if v = 1 then b else c
structure GAt (w : World) (g : Nat) (a b d : Int) (B : Option Addr) (k e : Nat) : Prop where
 lt : g < w.heap.size
 c0 : w.cell? ⟨g, 0, none⟩ = some (.int .i64 a)
 c1 : w.cell? ⟨g, 1, none⟩ = some (.int .i64 b)
 c2 : w.cell? ⟨g, 2, none⟩ = some (.int .i64 d)
 c3 : w.cell? ⟨g, 3, none⟩ = some (.slice B k e)
 free : ∀ i, w.frozen? ⟨g, i, none⟩ = false
set_option maxHeartbeats 400000
theorem sGatSync_c (t u : Sw.Head) (A : Option Addr) (c n : Nat) (xs : List Int) (B : Option Addr) (d m : Nat) (ps : List Int) (w : World) (hxs : RI w 0 A c n xs) (hps : RI w 0 B d m ps) : Calls Tryz.prog 206 #[.agg #[.int .i64 t.size, .int .i64 t.log, .int .i64 t.own, .slice A n c], .agg #[.int .i64 u.size, .int .i64 u.log, .int .i64 u.own], .slice B m d] w fun E w' => ∃ A' c' n', E = .returned (.tuple #[.agg #[.int .i64 (Sw.gatSync ⟨t, xs⟩ u ps).1.head.size, .int .i64 (Sw.gatSync ⟨t, xs⟩ u ps).1.head.log, .int .i64 (Sw.gatSync ⟨t, xs⟩ u ps).1.head.own, .slice A' n' c'], .bool (Sw.gatSync ⟨t, xs⟩ u ps).2]) ∧ OwI w' w.heap.size A' c' n' (Sw.gatSync ⟨t, xs⟩ u ps).1.done ∧ Ex w w' := by
 have hl := Lib.hid hxs.1
 cases g1 : Sw.gatOk ⟨t, xs⟩
 case false =>
   have e : Sw.gatSync ⟨t, xs⟩ u ps = (Sw.gateZ, false) := by simp [Sw.gatSync, g1]
   have He := Lib.hid e; clear e
   go_enter Tryz.func206, Tryz.ntmps206
   go_wp2_with (first | (go_at_call 98; apply Calls.mono; apply sGatOk_c; (exact rd_); rintro E w1 ⟨rfl, hb⟩; obtain ⟨hc, hf, hz⟩ := xy hb))
   refine bodyPost_ret (v := .tuple #[.agg #[.int .i64 0, .int .i64 0, .int .i64 0, .slice none 0 0], .bool false]) (by simp [results, Tryz.results206, go_sem, *]) rfl ?_
   exact ⟨none, 0, 0, by rw [He.out]; rfl, by rw [He.out]; exact Ow.nil _ _, ext_⟩
 have h8 : n ≤ 8 := by have := gatOk_len g1; have := hl.out; simp at *; omega
 cases g2 : Sw.hedFollows t u ps
 case false =>
   have e : Sw.gatSync ⟨t, xs⟩ u ps = (⟨t, xs⟩, false) := by simp [Sw.gatSync, g1, g2]
   have He := Lib.hid e; clear e
   go_enter Tryz.func206, Tryz.ntmps206
   go_wp2_with (first | (go_at_call 98; apply Calls.mono; apply sGatOk_c; (exact rd_); rintro E w1 ⟨rfl, hb⟩; obtain ⟨hc, hf, hz⟩ := xy hb) | (go_at_call 148; apply Calls.mono; apply sCopy_c; (exact rd_); (first | assumption | omega); rintro E w1 ⟨A', c', rfl, hr, hb⟩; obtain ⟨hc, hf, hz⟩ := xy hb) | (go_at_call 248; apply Calls.mono; apply sHedFollows_c; (exact rd_); rintro E w1 ⟨rfl, hb⟩; obtain ⟨hc, hf, hz⟩ := xy hb))
   refine bodyPost_ret (v := .tuple #[.agg #[.int .i64 t.size, .int .i64 t.log, .int .i64 t.own, .slice A' n c'], .bool false]) (by simp [results, Tryz.results206, go_sem, *]) rfl ?_
   exact ⟨A', c', n, by rw [He.out], by rw [He.out]; exact (hr.keep (by (exact kf_))).less (by exact sz_), ext_⟩
 have e : Sw.gatSync ⟨t, xs⟩ u ps = (⟨u, xs⟩, true) := by simp [Sw.gatSync, g1, g2]
 have He := Lib.hid e; clear e
 go_enter Tryz.func206, Tryz.ntmps206
 go_wp2_with (first | (go_at_call 98; apply Calls.mono; apply sGatOk_c; (exact rd_); rintro E w1 ⟨rfl, hb⟩; obtain ⟨hc, hf, hz⟩ := xy hb) | (go_at_call 148; apply Calls.mono; apply sCopy_c; (exact rd_); (first | assumption | omega); rintro E w1 ⟨A', c', rfl, hr, hb⟩; obtain ⟨hc, hf, hz⟩ := xy hb) | (go_at_call 248; apply Calls.mono; apply sHedFollows_c; (exact rd_); rintro E w1 ⟨rfl, hb⟩; obtain ⟨hc, hf, hz⟩ := xy hb))
 refine bodyPost_ret (v := .tuple #[.agg #[.int .i64 u.size, .int .i64 u.log, .int .i64 u.own, .slice A' n c'], .bool true]) (by simp [results, Tryz.results206, go_sem, *]) rfl ?_
 exact ⟨A', c', n, by rw [He.out], by rw [He.out]; exact (hr.keep (by (exact kf_))).less (by exact sz_), ext_⟩
set_option maxHeartbeats 1000000
end Go.Proofs.YtnnoiagommiapaaGreat
