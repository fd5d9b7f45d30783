/- Texts joined: DoA. -/
import Derived.Test.YtnnoiagommiapaaGreatPy21
import Derived.Test.YtnnoiagommiapaaGreatPy20
import Derived.Test.YtnnoiagommiapaaGreatPy9
import Derived.Test.YtnnoiagommiapaaGreatPy10
set_option maxRecDepth 100000
set_option linter.unusedSimpArgs false
set_option linter.unusedVariables false
namespace Go.Proofs.YtnnoiagommiapaaGreat
open Go.RowKit Go
set_option maxHeartbeats 1000000
def isAbout (t : Int) (d : Sw.Deal) : Bool := decide (d.ticket = t)
theorem dealIx_hit (ds : List Sw.Deal) (t : Int) : Sw.dealIx ds t = hitAt (isAbout t) ds := by
 unfold Sw.dealIx Sw.dealAt hitAt
 rfl
theorem sFind_c (A : Option Addr) (c n : Nat) (ds : List Sw.Deal) (t : Int) (w : World) (hxs : RDl w 0 A c n ds) : Calls Tryz.prog 266 #[.slice A n c, .int .i64 t] w fun E w' => E = .returned (.int .i64 (Sw.dealIx ds t)) ∧ w = w' := by
 have hl := Lib.hid hxs.1
 have hbig := Rs.big hxs
 rw [dealIx_hit]
 go_enter Tryz.func266, Tryz.ntmps266
 go_wp2_with fail
 go_loop [5] (fun i => ∃ k : Nat, k ≤ n ∧ i = .int .i64 k ∧ ∀ j, j < k → ∀ z, ds[j]? = some z → isAbout t z = false) (fun i => n - (intOf i).toNat)
 case atStart => exact ⟨0, Nat.zero_le _, rfl, by omega⟩
 case round =>
   obtain ⟨k, hk, rfl, hrel⟩ := hrel
   have Hrel := Lib.hid hrel; clear hrel
   by_cases hlt : k < n
   · obtain ⟨g, off, y, rfl, hg0, hg, hd, hy, hc0, hc1, hc2, hc3, hc4⟩ := at_D hxs hlt
     have Hy := Lib.hid hy; clear hd hy
     cases hmx : (y.ticket == t)
     case true =>
       go_wp2_with fail
       go_ret
       exact ⟨ret_i (hitAt_here Hy.out Hrel.out (by simpa [isAbout] using hmx)).symm, rfl⟩
     case false =>
       go_wp2_with fail
       go_round
       case rel => exact ⟨k + 1, by omega, by go_num, notHit_step Hy.out Hrel.out (by simpa [isAbout] using hmx)⟩
       case measure => simp [intOf]; omega
   · go_wp2_with fail
     go_ret
     exact ⟨ret_i (hitAt_none (by have := hl.out; omega) Hrel.out).symm, rfl⟩
theorem sRows_c (aL : Option Addr) (aLc aLn : Nat) (aP : Option Addr) (aPc aPn : Nat) (aD : Option Addr) (aDc aDn : Nat) (aN : Option Addr) (aNc aNn : Nat) (aS : Option Addr) (aSc aSn : Nat) (m : Sw.Mkt) (w : World) (hL : RE w 0 aL aLc aLn m.log) : Calls Tryz.prog 195 #[.agg #[.slice aL aLn aLc, .slice aP aPn aPc, .slice aD aDn aDc, .int .i64 m.clock, .slice aN aNn aNc, .slice aS aSn aSc]] w fun E w' => ∃ A' c' n', E = .returned (.slice A' n' c') ∧ OwR w' w.heap.size A' c' n' (Sw.mktRows m) ∧ Ex w w' := by
 go_enter Tryz.func195, Tryz.ntmps195
 go_wp2_with (go_at_call 177; apply Calls.mono; apply sOwnFold_c; (exact rdw_); rintro E w1 ⟨A', c', n', rfl, ho, hb⟩; obtain ⟨hc, hf, hz⟩ := xy hb)
 go_ret
 exact ⟨_, _, _, rfl, (ho.keep (by (exact kf_))).less (by exact sz_), ext_⟩
theorem sDealOfY_c (aL : Option Addr) (aLc aLn : Nat) (aP : Option Addr) (aPc aPn : Nat) (aD : Option Addr) (aDc aDn : Nat) (aN : Option Addr) (aNc aNn : Nat) (aS : Option Addr) (aSc aSn : Nat) (m : Sw.Mkt) (t : Int) (k : Nat) (d : Sw.Deal) (w : World) (hD : RDl w 0 aD aDc aDn m.deals) (ht : Sw.dealIx m.deals t = k) (hd : m.deals[k]? = some d) : Calls Tryz.prog 271 #[.agg #[.slice aL aLn aLc, .slice aP aPn aPc, .slice aD aDn aDc, .int .i64 m.clock, .slice aN aNn aNc, .slice aS aSn aSc], .int .i64 t] w fun E w' => E = .returned (.tuple #[.agg #[.int .i64 d.ticket, .int .i64 d.seller, .int .i64 d.price, .int .i64 d.buyer, .int .i64 d.due], .bool true]) ∧ Ex w w' := by
 have hlt : k < aDn := by rw [hD.1]; exact (List.getElem?_eq_some_iff.1 hd).1
 obtain ⟨g, off, y, rfl, hg0, hg, hd', hy, hc0, hc1, hc2, hc3, hc4⟩ := at_D hD hlt
 obtain rfl : y = d := Option.some.inj (hy.symm.trans hd)
 have HT := Lib.hid ht
 clear hd hd' hy ht
 go_enter Tryz.func271, Tryz.ntmps271
 go_wp2_with (go_at_call 266; apply Calls.mono; apply sFind_c; (apply Rs.at0 hD; (exact kf_)); rintro E w' ⟨rfl, rfl⟩; rw [HT.out])
 refine bodyPost_ret (v := .tuple #[.agg #[.int .i64 y.ticket, .int .i64 y.seller, .int .i64 y.price, .int .i64 y.buyer, .int .i64 y.due], .bool true]) (by simp [results, Tryz.results271, go_sem, *]) rfl ?_
 exact ⟨rfl, ext_⟩
theorem sDealOfN_c (aL : Option Addr) (aLc aLn : Nat) (aP : Option Addr) (aPc aPn : Nat) (aD : Option Addr) (aDc aDn : Nat) (aN : Option Addr) (aNc aNn : Nat) (aS : Option Addr) (aSc aSn : Nat) (m : Sw.Mkt) (t : Int) (w : World) (hD : RDl w 0 aD aDc aDn m.deals) (ht : Sw.dealIx m.deals t = -1) : Calls Tryz.prog 271 #[.agg #[.slice aL aLn aLc, .slice aP aPn aPc, .slice aD aDn aDc, .int .i64 m.clock, .slice aN aNn aNc, .slice aS aSn aSc], .int .i64 t] w fun E w' => E = .returned (.tuple #[.agg #[.int .i64 0, .int .i64 0, .int .i64 0, .int .i64 0, .int .i64 0], .bool false]) ∧ Ex w w' := by
 have HT := Lib.hid ht
 clear ht
 go_enter Tryz.func271, Tryz.ntmps271
 go_wp2_with (go_at_call 266; apply Calls.mono; apply sFind_c; (apply Rs.at0 hD; (exact kf_)); rintro E w' ⟨rfl, rfl⟩; rw [HT.out])
 refine bodyPost_ret (v := .tuple #[.agg #[.int .i64 0, .int .i64 0, .int .i64 0, .int .i64 0, .int .i64 0], .bool false]) (by simp [results, Tryz.results271, go_sem, *]) rfl ?_
 exact ⟨rfl, ext_⟩
theorem sOut_c (A : Option Addr) (c n : Nat) (ds : List Sw.Deal) (k : Nat) (w : World) (hxs : RDl w 0 A c n ds) (hk : k < n) (hn : n ≤ 4194304) : Calls Tryz.prog 267 #[.slice A n c, .int .i64 k] w fun E w' => ∃ A' c', E = .returned (.slice A' (n - 1) c') ∧ OwD w' w.heap.size A' c' (n - 1) (ds.eraseIdx k) ∧ Ex w w' := by
 have hle := hxs.2.le
 have hcb := hxs.2.cap
 have s1 := hxs.take (fun _ => rfl) (k := k) (by omega)
 have s2 := hxs.drop (fun _ => rfl) (k := k + 1) (by omega)
 obtain ⟨g, off, y, rfl, hg0, hg, hd, hy, hc0, hc1, hc2, hc3, hc4⟩ := at_D hxs hk
 clear hd hy hc0 hc1 hc2 hc3 hc4
 unfold maxLen at hcb
 have wk : IntKind.i64.wrap ((k : Int) + 1) = (k : Int) + 1 := IntWalk.i64_in _ (by omega)
 have z0 : (0 : Int) ≤ (k : Int) := by omega
 have z1 : (k : Int) ≤ (n : Int) := by omega
 have z2 : (k : Int) + 1 ≤ (n : Int) := by omega
 have z3 : (0 : Int) ≤ (k : Int) + 1 := by omega
 have z4 : (k : Int) ≤ (c : Int) := by omega
 have z5 : (n : Int) ≤ (c : Int) := by omega
 have z6 : ((k : Int) + 1).toNat = k + 1 := by omega
 by_cases hck : c = k + 1
 · rw [if_pos hck] at s2
   subst hck
   obtain rfl : n = k + 1 := by omega
   have z7 : (k : Int) ≤ (k : Int) + 1 := by omega
   have s2 : Rs Sw.Deal.enc 5 w 0 (some ⟨g, off, none⟩) 0 0 [] := by
     rw [List.drop_of_length_le (by have := hxs.1; omega), Nat.sub_self] at s2
     exact s2
   clear z1 z2 z4 z5
   have z8 : (k : Int) + 1 ≤ (k : Int) + 1 := by omega
   go_enter Tryz.func267, Tryz.ntmps267
   go_wp2_with fail
   (refine wn_ fun W0 hb0 hc0 hf0 hz0 => ?_; refine wp_region_held_drew (S := fun w' => Held W0 w') (by kernel_rfl) ?_ (fun hHeld => ?_); (focus ((try dsimp only); (exact hq_))); refine rT 1 6 (h := ?_); refine rT 2 7 (h := ?_); refine rT 3 8 (h := ?_); refine rT 5 10 (h := ?_); refine rT 6 11 (h := ?_); refine rT 7 12 (h := ?_); refine rT 8 13 (h := ?_); refine wpAnyH_ready (rs := [0]) (by kernel_rfl) (by simp) ?_; refine AllReadyH.cons rfl (fun K hK => ?_) ?_; rotate_left; (focus exact AllReadyH.nil); go_simp; refine hK.out _ _ ?_ (fun hHeld => ?_); (focus ((try dsimp only); (exact hq_))); clear hK K; (try simp only [Act.put, List.getElem_toArray, List.getElem_cons_succ, List.getElem_cons_zero, pz_]); refine wpAnyH_ready (rs := [4]) (by kernel_rfl) (by simp) ?_; refine AllReadyH.cons rfl (fun K hK => ?_) ?_; rotate_left; (focus exact AllReadyH.nil); (first | (apply step_app (lo := W0.heap.size) el_D one_D rfl rfl rfl rfl; (first | assumption | exact Ow.nil _ _ | (apply Ow.keep; assumption; exact kf_) | (refine own_)); (apply Rs.at0 s1; exact kf_); omega; (first | exact Nat.le_refl _ | exact sz_); intro A1 c1 w2 ho1 hch1 hat1 hex1 hlow1; have hbx := hex1 (fun _ => False) W0 (And.right (by assumption : Held W0 _)) (Nat.le_refl _); have hz1 := hbx.size; clear hex1 hlow1) | (apply step_app (lo := W0.heap.size) el_D one_D rfl rfl rfl rfl; (first | assumption | exact Ow.nil _ _ | (apply Ow.keep; assumption; exact kf_) | (refine own_)); (apply Rs.at0 s2; exact kf_); omega; (first | exact Nat.le_refl _ | exact sz_); intro A1 c1 w2 ho1 hch1 hat1 hex1 hlow1; have hbx := hex1 (fun _ => False) W0 (And.right (by assumption : Held W0 _)) (Nat.le_refl _); have hz1 := hbx.size; clear hex1 hlow1)); (try simp only [Act.put, List.getElem_toArray, List.getElem_cons_succ, List.getElem_cons_zero, pz_]); refine hK.out _ _ ?_ (fun hHeld => ?_); (focus ((try dsimp only); (exact hq_))); clear hK K; (try simp only [Act.put, List.getElem_toArray, List.getElem_cons_succ, List.getElem_cons_zero, pz_]); refine wpAnyH_ready (rs := [9]) (by kernel_rfl) (by simp) ?_; refine AllReadyH.cons rfl (fun K hK => ?_) ?_; rotate_left; (focus exact AllReadyH.nil); (first | (apply step_app (lo := W0.heap.size) el_D one_D rfl rfl rfl rfl; (first | assumption | exact Ow.nil _ _ | (apply Ow.keep; assumption; exact kf_) | (refine own_)); (apply Rs.at0 s1; exact kf_); omega; (first | exact Nat.le_refl _ | exact sz_); intro A1 c1 w2 ho1 hch1 hat1 hex1 hlow1; have hbx := hex1 (fun _ => False) W0 (And.right (by assumption : Held W0 _)) (Nat.le_refl _); have hz1 := hbx.size; clear hex1 hlow1) | (apply step_app (lo := W0.heap.size) el_D one_D rfl rfl rfl rfl; (first | assumption | exact Ow.nil _ _ | (apply Ow.keep; assumption; exact kf_) | (refine own_)); (apply Rs.at0 s2; exact kf_); omega; (first | exact Nat.le_refl _ | exact sz_); intro A1 c1 w2 ho1 hch1 hat1 hex1 hlow1; have hbx := hex1 (fun _ => False) W0 (And.right (by assumption : Held W0 _)) (Nat.le_refl _); have hz1 := hbx.size; clear hex1 hlow1)); (try simp only [Act.put, List.getElem_toArray, List.getElem_cons_succ, List.getElem_cons_zero, pz_]); refine hK.out _ _ ?_ (fun hHeld => ?_); (focus ((try dsimp only); (exact hq_))); clear hK K; (try simp only [Act.put, List.getElem_toArray, List.getElem_cons_succ, List.getElem_cons_zero, pz_]); refine rT 10 4 (h := ?_); refine wpAnyH_done (by kernel_rfl) ?_ _; all_goals (obtain ⟨hb, hc, hf, hz⟩ := xh (by assumption : Held W0 _)))
   go_wp2_with fail
   go_ret
   rw [List.nil_append, List.append_nil, Nat.zero_add, Nat.add_zero] at ho1
   refine ⟨_, _, by rfl, ?_, ext_⟩
   rw [List.eraseIdx_eq_take_drop_succ, List.drop_of_length_le (by have := hxs.1; omega), List.append_nil]
   exact ho1.less hz0
 · rw [if_neg hck] at s2
   go_enter Tryz.func267, Tryz.ntmps267
   go_wp2_with fail
   (refine wn_ fun W0 hb0 hc0 hf0 hz0 => ?_; refine wp_region_held_drew (S := fun w' => Held W0 w') (by kernel_rfl) ?_ (fun hHeld => ?_); (focus ((try dsimp only); (exact hq_))); refine rT 1 6 (h := ?_); refine rT 2 7 (h := ?_); refine rT 3 8 (h := ?_); refine rT 5 10 (h := ?_); refine rT 6 11 (h := ?_); refine rT 7 12 (h := ?_); refine rT 8 13 (h := ?_); refine wpAnyH_ready (rs := [0]) (by kernel_rfl) (by simp) ?_; refine AllReadyH.cons rfl (fun K hK => ?_) ?_; rotate_left; (focus exact AllReadyH.nil); go_simp; refine hK.out _ _ ?_ (fun hHeld => ?_); (focus ((try dsimp only); (exact hq_))); clear hK K; (try simp only [Act.put, List.getElem_toArray, List.getElem_cons_succ, List.getElem_cons_zero, pz_]); refine wpAnyH_ready (rs := [4]) (by kernel_rfl) (by simp) ?_; refine AllReadyH.cons rfl (fun K hK => ?_) ?_; rotate_left; (focus exact AllReadyH.nil); (first | (apply step_app (lo := W0.heap.size) el_D one_D rfl rfl rfl rfl; (first | assumption | exact Ow.nil _ _ | (apply Ow.keep; assumption; exact kf_) | (refine own_)); (apply Rs.at0 s1; exact kf_); omega; (first | exact Nat.le_refl _ | exact sz_); intro A1 c1 w2 ho1 hch1 hat1 hex1 hlow1; have hbx := hex1 (fun _ => False) W0 (And.right (by assumption : Held W0 _)) (Nat.le_refl _); have hz1 := hbx.size; clear hex1 hlow1) | (apply step_app (lo := W0.heap.size) el_D one_D rfl rfl rfl rfl; (first | assumption | exact Ow.nil _ _ | (apply Ow.keep; assumption; exact kf_) | (refine own_)); (apply Rs.at0 s2; exact kf_); omega; (first | exact Nat.le_refl _ | exact sz_); intro A1 c1 w2 ho1 hch1 hat1 hex1 hlow1; have hbx := hex1 (fun _ => False) W0 (And.right (by assumption : Held W0 _)) (Nat.le_refl _); have hz1 := hbx.size; clear hex1 hlow1)); (try simp only [Act.put, List.getElem_toArray, List.getElem_cons_succ, List.getElem_cons_zero, pz_]); refine hK.out _ _ ?_ (fun hHeld => ?_); (focus ((try dsimp only); (exact hq_))); clear hK K; (try simp only [Act.put, List.getElem_toArray, List.getElem_cons_succ, List.getElem_cons_zero, pz_]); refine wpAnyH_ready (rs := [9]) (by kernel_rfl) (by simp) ?_; refine AllReadyH.cons rfl (fun K hK => ?_) ?_; rotate_left; (focus exact AllReadyH.nil); (first | (apply step_app (lo := W0.heap.size) el_D one_D rfl rfl rfl rfl; (first | assumption | exact Ow.nil _ _ | (apply Ow.keep; assumption; exact kf_) | (refine own_)); (apply Rs.at0 s1; exact kf_); omega; (first | exact Nat.le_refl _ | exact sz_); intro A1 c1 w2 ho1 hch1 hat1 hex1 hlow1; have hbx := hex1 (fun _ => False) W0 (And.right (by assumption : Held W0 _)) (Nat.le_refl _); have hz1 := hbx.size; clear hex1 hlow1) | (apply step_app (lo := W0.heap.size) el_D one_D rfl rfl rfl rfl; (first | assumption | exact Ow.nil _ _ | (apply Ow.keep; assumption; exact kf_) | (refine own_)); (apply Rs.at0 s2; exact kf_); omega; (first | exact Nat.le_refl _ | exact sz_); intro A1 c1 w2 ho1 hch1 hat1 hex1 hlow1; have hbx := hex1 (fun _ => False) W0 (And.right (by assumption : Held W0 _)) (Nat.le_refl _); have hz1 := hbx.size; clear hex1 hlow1)); (try simp only [Act.put, List.getElem_toArray, List.getElem_cons_succ, List.getElem_cons_zero, pz_]); refine hK.out _ _ ?_ (fun hHeld => ?_); (focus ((try dsimp only); (exact hq_))); clear hK K; (try simp only [Act.put, List.getElem_toArray, List.getElem_cons_succ, List.getElem_cons_zero, pz_]); refine rT 10 4 (h := ?_); refine wpAnyH_done (by kernel_rfl) ?_ _; all_goals (obtain ⟨hb, hc, hf, hz⟩ := xh (by assumption : Held W0 _)))
   go_wp2_with fail
   go_ret
   rw [List.nil_append, ← List.eraseIdx_eq_take_drop_succ, Nat.zero_add, show k + (n - (k + 1)) = n - 1 from by omega] at ho1
   refine ⟨A1, c1, ?_, ho1.less hz0, ext_⟩
   rw [show k + (n - (k + 1)) = n - 1 from by omega]
   rfl
theorem insertDeal_step (d y : Sw.Deal) (r : List Sw.Deal) : Sw.insertDeal d (y :: r) = if d.ticket < y.ticket then d :: y :: r else y :: Sw.insertDeal d r := by rw [Sw.insertDeal]
theorem sPut_c (A : Option Addr) (c n : Nat) (ds : List Sw.Deal) (d : Sw.Deal) (w : World) (hxs : RDl w 0 A c n ds) (hn : n ≤ 4194304) : Calls Tryz.prog 268 #[.slice A n c, .agg #[.int .i64 d.ticket, .int .i64 d.seller, .int .i64 d.price, .int .i64 d.buyer, .int .i64 d.due]] w fun E w' => ∃ A' c', E = .returned (.slice A' (n + 1) c') ∧ OwD w' w.heap.size A' c' (n + 1) (Sw.insertDeal d ds) ∧ Ex w w' := by
 have hl := Lib.hid hxs.1
 go_enter Tryz.func268, Tryz.ntmps268
 go_wp2_with fail
 go_loopw [5, 6, 7] (fun o f i wr => ∃ (k : Nat) (dn : Bool) (B : Option Addr) (e : Nat) (m : Nat) (es : List Sw.Deal), k ≤ n ∧ i = .int .i64 k ∧ f = .bool dn ∧ o = .slice B m e ∧ (m = k + if dn then 1 else 0) ∧ Ex (w.alloc (.cells #[.int .i64 d.ticket, .int .i64 d.seller, .int .i64 d.price, .int .i64 d.buyer, .int .i64 d.due] 105)) wr ∧ OwD wr (w.heap.size + 1) B e m es ∧
   Sw.insertDeal d ds = (if dn then es ++ ds.drop k else es ++ Sw.insertDeal d (ds.drop k))) (fun _ _ i _ => n - (intOf i).toNat)
 case atStart =>
   exact ⟨0, false, some ⟨w.heap.size + 1, 0, none⟩, 0, 0, [], Nat.zero_le _, rfl, rfl, rfl, rfl, ext_, Ow.new [] (by simp) rfl rfl (fun _ => rfl) (Nat.le_refl _) (by omega), by simp⟩
 case round =>
   obtain ⟨k, dn, B, e, m, es, hk, rfl, rfl, rfl, hm, hb, ho, heq⟩ := hrel
   have hst := Ex.rules hb rfl
   (try simp only [zA, zC, zD] at hst)
   obtain ⟨hc, hf, hz⟩ := hst
   have HE := Lib.hid heq; clear heq
   have HM := Lib.hid hm
   have hmn : m ≤ n + 1 := by rw [hm]; split <;> omega
   clear hm
   by_cases hlt : k < n
   · obtain ⟨g, off, y, rfl, hg0, hg, hd, hy, hc0, hc1, hc2, hc3, hc4⟩ := at_D hxs hlt
     have HD := Lib.hid hd; clear hd hy
     cases dn
     case true =>
       go_wp2_with fail
       (go_quiet ((first | fail)); all_goals (generalize hWq : World.drewN _ nq = W0; have hb0 := Ex.ofN hWq; clear hWq; obtain ⟨hc0, hf0, hz0⟩ := xy hb0))
       go_wp2_with (at_builtin; apply wpList_app (lo := w.heap.size + 1) el_D one_D rfl rfl rfl rfl; (first | assumption | exact Ow.nil _ _ | (apply Ow.keep; assumption; exact kf_) | (refine own_)); (first | (refine Rs.new [y] (by (first | rfl | (simp only [zq_]; done) | omega)) rfl rfl (fun _ => rfl) (by omega))); omega; exact sz_; intro A1 c1 w2 ho1 hch1 hat1 hex1 hlow1; have hb := hex1 (fun _ => False) (w.alloc (.cells #[.int .i64 d.ticket, .int .i64 d.seller, .int .i64 d.price, .int .i64 d.buyer, .int .i64 d.due] 105)) (by exact ext_) (by exact sz_); have hz := hch1.size; (try simp only [zq_] at hz); obtain ⟨hc, hf⟩ := low_rules hlow1; clear hlow1 hex1)
       go_roundw
       case rel => exact ⟨k + 1, true, A1, c1, m + 1, es ++ [y], by omega, by go_num, rfl, rfl, by have := HM.out; simp at this ⊢; omega, hb, ho1, by rw [HE.out, HD.out]; simp⟩
       case measure => simp [intOf]; omega
     case false =>
       have HI := Lib.hid (insertDeal_step d y (ds.drop (k + 1)))
       by_cases hcmp : d.ticket < y.ticket
       · go_wp2_with fail
         (go_quiet ((first | fail)); all_goals (generalize hWq : World.drewN _ nq = W0; have hb0 := Ex.ofN hWq; clear hWq; obtain ⟨hc0, hf0, hz0⟩ := xy hb0))
         go_wp2_with (first | (at_builtin; apply wpList_app (lo := w.heap.size + 1) el_D one_D rfl rfl rfl rfl; (first | assumption | exact Ow.nil _ _ | (apply Ow.keep; assumption; exact kf_) | (refine own_)); (first | (refine Rs.new [d] (by (first | rfl | (simp only [zq_]; done) | omega)) rfl rfl (fun _ => rfl) (by omega))); omega; exact sz_; intro A1 c1 w2 ho1 hch1 hat1 hex1 hlow1; have hb := hex1 (fun _ => False) (w.alloc (.cells #[.int .i64 d.ticket, .int .i64 d.seller, .int .i64 d.price, .int .i64 d.buyer, .int .i64 d.due] 105)) (by exact ext_) (by exact sz_); have hz := hch1.size; (try simp only [zq_] at hz); obtain ⟨hc, hf⟩ := low_rules hlow1; clear hlow1 hex1) | (at_builtin; apply wpList_app (lo := w.heap.size + 1) el_D one_D rfl rfl rfl rfl; (first | assumption | exact Ow.nil _ _ | (apply Ow.keep; assumption; exact kf_) | (refine own_)); (first | (refine Rs.new [y] (by (first | rfl | (simp only [zq_]; done) | omega)) rfl rfl (fun _ => rfl) (by omega))); omega; exact sz_; intro A1 c1 w2 ho1 hch1 hat1 hex1 hlow1; have hb := hex1 (fun _ => False) (w.alloc (.cells #[.int .i64 d.ticket, .int .i64 d.seller, .int .i64 d.price, .int .i64 d.buyer, .int .i64 d.due] 105)) (by exact ext_) (by exact sz_); have hz := hch1.size; (try simp only [zq_] at hz); obtain ⟨hc, hf⟩ := low_rules hlow1; clear hlow1 hex1))
         go_roundw
         case rel => exact ⟨k + 1, true, A1, c1, m + 1 + 1, es ++ [d] ++ [y], by omega, by go_num, rfl, rfl, by have := HM.out; simp at this ⊢; omega, hb, ho1, by rw [HE.out, HD.out, HI.out]; simp [hcmp]⟩
         case measure => simp [intOf]; omega
       · have HC := Lib.hid hcmp
         go_wp2_with fail
         (go_quiet ((first | fail)); all_goals (generalize hWq : World.drewN _ nq = W0; have hb0 := Ex.ofN hWq; clear hWq; obtain ⟨hc0, hf0, hz0⟩ := xy hb0))
         go_wp2_with (at_builtin; apply wpList_app (lo := w.heap.size + 1) el_D one_D rfl rfl rfl rfl; (first | assumption | exact Ow.nil _ _ | (apply Ow.keep; assumption; exact kf_) | (refine own_)); (first | (refine Rs.new [y] (by (first | rfl | (simp only [zq_]; done) | omega)) rfl rfl (fun _ => rfl) (by omega))); omega; exact sz_; intro A1 c1 w2 ho1 hch1 hat1 hex1 hlow1; have hb := hex1 (fun _ => False) (w.alloc (.cells #[.int .i64 d.ticket, .int .i64 d.seller, .int .i64 d.price, .int .i64 d.buyer, .int .i64 d.due] 105)) (by exact ext_) (by exact sz_); have hz := hch1.size; (try simp only [zq_] at hz); obtain ⟨hc, hf⟩ := low_rules hlow1; clear hlow1 hex1)
         go_roundw
         case rel => exact ⟨k + 1, false, A1, c1, m + 1, es ++ [y], by omega, by go_num, rfl, rfl, by have := HM.out; simp at this ⊢; omega, hb, ho1, by rw [HE.out, HD.out, HI.out]; have := HC.out; simp [show ¬ d.ticket < y.ticket from by omega]⟩
         case measure => simp [intOf]; omega
   · obtain rfl : k = n := by omega
     cases dn
     all_goals go_wp2_with (at_builtin; apply wpList_app (lo := w.heap.size + 1) el_D one_D rfl rfl rfl rfl; (first | assumption | exact Ow.nil _ _ | (apply Ow.keep; assumption; exact kf_) | (refine own_)); (first | (refine Rs.new [d] (by (first | rfl | (simp only [zq_]; done) | omega)) rfl rfl (fun _ => rfl) (by omega))); omega; exact sz_; intro A1 c1 w2 ho1 hch1 hat1 hex1 hlow1; have hb := hex1 (fun _ => False) (w.alloc (.cells #[.int .i64 d.ticket, .int .i64 d.seller, .int .i64 d.price, .int .i64 d.buyer, .int .i64 d.due] 105)) (by exact ext_) (by exact sz_); have hz := hch1.size; (try simp only [zq_] at hz); obtain ⟨hc, hf⟩ := low_rules hlow1; clear hlow1 hex1)
     all_goals go_ret
     · have hmk : m + 1 = k + 1 := by have := HM.out; simp at this; omega
       rw [hmk] at ho1 ⊢
       refine ⟨A1, c1, rfl, ?_, ext_⟩
       rw [HE.out, List.drop_of_length_le (by have := hl.out; omega)]
       exact ho1.less (by omega)
     · have hmk : m = k + 1 := by have := HM.out; simp at this; omega
       rw [hmk] at ho ⊢
       refine ⟨B, e, rfl, ?_, ext_⟩
       rw [HE.out, List.drop_of_length_le (by have := hl.out; omega)]
       simp
       exact ho.less (by omega)
end Go.Proofs.YtnnoiagommiapaaGreat
