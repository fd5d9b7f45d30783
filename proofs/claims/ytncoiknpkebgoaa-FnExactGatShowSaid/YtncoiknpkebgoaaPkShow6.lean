/-
  Texts joined: DoA, Mon1, MktA, Mak, DoB, GShow, GShowI, ExGatShow, Frame, Open, End.
-/
import Derived.Test.YtncoiknpkebgoaaPkShow5
import Derived.Test.YtncoiknpkebgoaaPkShow4
import Derived.Test.YtncoiknpkebgoaaPkShow2
import Derived.Test.YtncoiknpkebgoaaPkShow3
import Derived.Test.YtncoiknpkebgoaaPkShow1
import Derived.Deep.DeepCutAuto
import Derived.Carry
import Derived.WalkKit
import Derived.ProofKit
import Derived.ChangeSame
import Derived.OpenShut
import Derived.ChangeSlices
import Derived.Deep.Slices
import Derived.Test.YtncoiknpkebgoaaRows
import Derived.Handed
import Derived.JoinedOf
namespace Go.Proofs.Ytncoiknpkebgoaa
set_option maxRecDepth 100000
set_option linter.unusedSimpArgs false
set_option linter.unusedVariables false
open Go.RowKit Go
set_option maxHeartbeats 1000000

def isAbout (t : Int) (d : Sw.Deal) : Bool := decide (d.ticket = t)
theorem dealIx_hit (ds : List Sw.Deal) (t : Int) : Sw.dealIx ds t = hitAt (isAbout t) ds := by
  unfold Sw.dealIx Sw.dealAt hitAt
  rfl
theorem sFind_c (A : Option Addr) (c n : Nat) (ds : List Sw.Deal) (t : Int) (w : World) (hxs : RDl w 0 A c n ds) : Calls Try.prog 253 #[.slice A n c, .int .i64 t] w fun E w' => E = .returned (.int .i64 (Sw.dealIx ds t)) ∧ w = w' := by
  have hl := Lib.hid hxs.1
  have hbig := Rs.big hxs
  rw [dealIx_hit]
  go_enter Try.func253, Try.ntmps253
  go_wp2_with fail
  go_loop [5] (fun i => ∃ k : Nat, k ≤ n ∧ i = .int .i64 k ∧ ∀ j, j < k → ∀ z, ds[j]? = some z → isAbout t z = false) (fun i => n - (intOf i).toNat)
  case atStart => exact ⟨0, Nat.zero_le _, rfl, by omega⟩
  case round =>
    obtain ⟨k, hk, rfl, hrel⟩ := hrel
    have Hrel := Lib.hid hrel; clear hrel
    by_cases hlt : k < n
    · obtain ⟨g, off, y, rfl, hg0, hg, hd, hy, hc0, hc1, hc2, hc3, hc4⟩ := at_D hxs hlt
      have Hy := Lib.hid hy; clear hd hy
      cases hmx : (y.ticket == t)
      case true =>
        go_wp2_with fail
        go_ret
        exact ⟨ret_i (hitAt_here Hy.out Hrel.out (by simpa [isAbout] using hmx)).symm, rfl⟩
      case false =>
        go_wp2_with fail
        go_round
        case rel => exact ⟨k + 1, by omega, by go_num, notHit_step Hy.out Hrel.out (by simpa [isAbout] using hmx)⟩
        case measure => simp [intOf]; omega
    · go_wp2_with fail
      go_ret
      exact ⟨ret_i (hitAt_none (by have := hl.out; omega) Hrel.out).symm, rfl⟩

theorem sRows_c (aL : Option Addr) (aLc aLn : Nat) (aP : Option Addr) (aPc aPn : Nat) (aD : Option Addr) (aDc aDn : Nat) (aN : Option Addr) (aNc aNn : Nat) (aS : Option Addr) (aSc aSn : Nat) (m : Sw.Mkt) (w : World) (hL : RE w 0 aL aLc aLn m.log) : Calls Try.prog 247 #[.agg #[.slice aL aLn aLc, .slice aP aPn aPc, .slice aD aDn aDc, .int .i64 m.clock, .slice aN aNn aNc, .slice aS aSn aSc]] w fun E w' => ∃ A' c' n', E = .returned (.slice A' n' c') ∧ OwR w' w.heap.size A' c' n' (Sw.mktRows m) ∧ Ex w w' := by
  go_enter Try.func247, Try.ntmps247
  go_wp2_with (go_at_call 143; apply Calls.mono; apply sOwnFold_c; ((first | (apply Rs.at0; assumption) | (apply Ow.rs0; assumption) | (apply OwT.rs0; assumption)); exact kf_); rintro E w1 ⟨A', c', n', rfl, ho, hb⟩; have hst := xr hb; (try simp only [zA, zC, zD, zN] at hst); obtain ⟨hc, hf, hz⟩ := hst)
  go_ret
  exact ⟨_, _, _, rfl, (ho.keep (by (exact kf_))).less (by exact sz_), ext_⟩

theorem sDealOfY_c (aL : Option Addr) (aLc aLn : Nat) (aP : Option Addr) (aPc aPn : Nat) (aD : Option Addr) (aDc aDn : Nat) (aN : Option Addr) (aNc aNn : Nat) (aS : Option Addr) (aSc aSn : Nat) (m : Sw.Mkt) (t : Int) (k : Nat) (d : Sw.Deal) (w : World) (hD : RDl w 0 aD aDc aDn m.deals) (ht : Sw.dealIx m.deals t = k) (hd : m.deals[k]? = some d) : Calls Try.prog 248 #[.agg #[.slice aL aLn aLc, .slice aP aPn aPc, .slice aD aDn aDc, .int .i64 m.clock, .slice aN aNn aNc, .slice aS aSn aSc], .int .i64 t] w fun E w' => E = .returned (.tuple #[.agg #[.int .i64 d.ticket, .int .i64 d.seller, .int .i64 d.price, .int .i64 d.buyer, .int .i64 d.due], .bool true]) ∧ Ex w w' := by
  have hlt : k < aDn := by rw [hD.1]; exact (List.getElem?_eq_some_iff.1 hd).1
  obtain ⟨g, off, y, rfl, hg0, hg, hd', hy, hc0, hc1, hc2, hc3, hc4⟩ := at_D hD hlt
  obtain rfl : y = d := Option.some.inj (hy.symm.trans hd)
  have HT := Lib.hid ht
  clear hd hd' hy ht
  go_enter Try.func248, Try.ntmps248
  go_wp2_with (go_at_call 253; apply Calls.mono; apply sFind_c; (apply Rs.at0 hD; (exact kf_)); rintro E w' ⟨rfl, rfl⟩; rw [HT.out])
  refine bodyPost_ret (v := .tuple #[.agg #[.int .i64 y.ticket, .int .i64 y.seller, .int .i64 y.price, .int .i64 y.buyer, .int .i64 y.due], .bool true]) (by simp [results, Try.results248, go_sem, *]) rfl ?_
  exact ⟨rfl, ext_⟩
theorem sDealOfN_c (aL : Option Addr) (aLc aLn : Nat) (aP : Option Addr) (aPc aPn : Nat) (aD : Option Addr) (aDc aDn : Nat) (aN : Option Addr) (aNc aNn : Nat) (aS : Option Addr) (aSc aSn : Nat) (m : Sw.Mkt) (t : Int) (w : World) (hD : RDl w 0 aD aDc aDn m.deals) (ht : Sw.dealIx m.deals t = -1) : Calls Try.prog 248 #[.agg #[.slice aL aLn aLc, .slice aP aPn aPc, .slice aD aDn aDc, .int .i64 m.clock, .slice aN aNn aNc, .slice aS aSn aSc], .int .i64 t] w fun E w' => E = .returned (.tuple #[.agg #[.int .i64 0, .int .i64 0, .int .i64 0, .int .i64 0, .int .i64 0], .bool false]) ∧ Ex w w' := by
  have HT := Lib.hid ht
  clear ht
  go_enter Try.func248, Try.ntmps248
  go_wp2_with (go_at_call 253; apply Calls.mono; apply sFind_c; (apply Rs.at0 hD; (exact kf_)); rintro E w' ⟨rfl, rfl⟩; rw [HT.out])
  refine bodyPost_ret (v := .tuple #[.agg #[.int .i64 0, .int .i64 0, .int .i64 0, .int .i64 0, .int .i64 0], .bool false]) (by simp [results, Try.results248, go_sem, *]) rfl ?_
  exact ⟨rfl, ext_⟩

theorem sOut_c (A : Option Addr) (c n : Nat) (ds : List Sw.Deal) (k : Nat) (w : World) (hxs : RDl w 0 A c n ds) (hk : k < n) (hn : n ≤ 4194304) : Calls Try.prog 260 #[.slice A n c, .int .i64 k] w fun E w' => ∃ A' c', E = .returned (.slice A' (n - 1) c') ∧ OwD w' w.heap.size A' c' (n - 1) (ds.eraseIdx k) ∧ Ex w w' := by
  have hle := hxs.2.le
  have hcb := hxs.2.cap
  have s1 := hxs.take (fun _ => rfl) (k := k) (by omega)
  have s2 := hxs.drop (fun _ => rfl) (k := k + 1) (by omega)
  obtain ⟨g, off, y, rfl, hg0, hg, hd, hy, hc0, hc1, hc2, hc3, hc4⟩ := at_D hxs hk
  clear hd hy hc0 hc1 hc2 hc3 hc4
  unfold maxLen at hcb
  have wk : IntKind.i64.wrap ((k : Int) + 1) = (k : Int) + 1 := IntWalk.i64_in _ (by omega)
  have z0 : (0 : Int) ≤ (k : Int) := by omega
  have z1 : (k : Int) ≤ (n : Int) := by omega
  have z2 : (k : Int) + 1 ≤ (n : Int) := by omega
  have z3 : (0 : Int) ≤ (k : Int) + 1 := by omega
  have z4 : (k : Int) ≤ (c : Int) := by omega
  have z5 : (n : Int) ≤ (c : Int) := by omega
  have z6 : ((k : Int) + 1).toNat = k + 1 := by omega
  by_cases hck : c = k + 1
  · rw [if_pos hck] at s2
    subst hck
    obtain rfl : n = k + 1 := by omega
    have z7 : (k : Int) ≤ (k : Int) + 1 := by omega
    have s2 : Rs Sw.Deal.enc 5 w 0 (some ⟨g, off, none⟩) 0 0 [] := by
      rw [List.drop_of_length_le (by have := hxs.1; omega), Nat.sub_self] at s2
      exact s2
    clear z1 z2 z4 z5
    have z8 : (k : Int) + 1 ≤ (k : Int) + 1 := by omega
    go_enter Try.func260, Try.ntmps260
    go_wp2_with fail
    (refine wp_name ?_; intro W0 hb0; have hst := xr hb0; (try simp only [zA, zC, zD, zN] at hst); obtain ⟨hc0, hf0, hz0⟩ := hst; refine wp_region_held_drew (S := fun w' => Held W0 w') (by kernel_rfl) ?_ (fun hHeld => ?_); (focus ((try dsimp only); (first | with_reducible assumption | with_reducible exact Held.start _ | with_reducible exact Held.of (by assumption) | with_reducible exact Held.ex (by assumption) (by assumption) | ((repeat (first | with_reducible refine Held.set ?_ (by simp only [zA, zC, zD, zN]; omega) | with_reducible refine Held.alloc ?_ _ | with_reducible refine Held.drew ?_)); (first | with_reducible assumption | with_reducible exact Held.refl _ | with_reducible exact Held.of (by assumption) | with_reducible exact Held.ex (by assumption) (by assumption))) | exact Held.of (by exact ext_)))); refine regT 1 6 (v := ?_) rfl rfl (by kernel_rfl) (by kernel_rfl) (by kernel_rfl) (fun _ _ _ h => h) (by rfl) ?_ (by assumption) ?_; rotate_left; (focus (intro w hSw; (try dsimp only at hSw); go_simp; (try with_reducible rfl))); (try simp only [Act.put, List.getElem_toArray, List.getElem_cons_succ, List.getElem_cons_zero, List.setIfInBounds_toArray, List.set_cons_zero, List.set_cons_succ]); refine regT 2 7 (v := ?_) rfl rfl (by kernel_rfl) (by kernel_rfl) (by kernel_rfl) (fun _ _ _ h => h) (by rfl) ?_ (by assumption) ?_; rotate_left; (focus (intro w hSw; (try dsimp only at hSw); go_simp; (try with_reducible rfl))); (try simp only [Act.put, List.getElem_toArray, List.getElem_cons_succ, List.getElem_cons_zero, List.setIfInBounds_toArray, List.set_cons_zero, List.set_cons_succ]); refine regT 3 8 (v := ?_) rfl rfl (by kernel_rfl) (by kernel_rfl) (by kernel_rfl) (fun _ _ _ h => h) (by rfl) ?_ (by assumption) ?_; rotate_left; (focus (intro w hSw; (try dsimp only at hSw); go_simp; (try with_reducible rfl))); (try simp only [Act.put, List.getElem_toArray, List.getElem_cons_succ, List.getElem_cons_zero, List.setIfInBounds_toArray, List.set_cons_zero, List.set_cons_succ]); refine regT 5 10 (v := ?_) rfl rfl (by kernel_rfl) (by kernel_rfl) (by kernel_rfl) (fun _ _ _ h => h) (by rfl) ?_ (by assumption) ?_; rotate_left; (focus (intro w hSw; (try dsimp only at hSw); go_simp; (try with_reducible rfl))); (try simp only [Act.put, List.getElem_toArray, List.getElem_cons_succ, List.getElem_cons_zero, List.setIfInBounds_toArray, List.set_cons_zero, List.set_cons_succ]); refine regT 6 11 (v := ?_) rfl rfl (by kernel_rfl) (by kernel_rfl) (by kernel_rfl) (fun _ _ _ h => h) (by rfl) ?_ (by assumption) ?_; rotate_left; (focus (intro w hSw; (try dsimp only at hSw); go_simp; (try with_reducible rfl))); (try simp only [Act.put, List.getElem_toArray, List.getElem_cons_succ, List.getElem_cons_zero, List.setIfInBounds_toArray, List.set_cons_zero, List.set_cons_succ]); refine regT 7 12 (v := ?_) rfl rfl (by kernel_rfl) (by kernel_rfl) (by kernel_rfl) (fun _ _ _ h => h) (by rfl) ?_ (by assumption) ?_; rotate_left; (focus (intro w hSw; (try dsimp only at hSw); go_simp; (try with_reducible rfl))); (try simp only [Act.put, List.getElem_toArray, List.getElem_cons_succ, List.getElem_cons_zero, List.setIfInBounds_toArray, List.set_cons_zero, List.set_cons_succ]); refine regT 8 13 (v := ?_) rfl rfl (by kernel_rfl) (by kernel_rfl) (by kernel_rfl) (fun _ _ _ h => h) (by rfl) ?_ (by assumption) ?_; rotate_left; (focus (intro w hSw; (try dsimp only at hSw); go_simp; (try with_reducible rfl))); (try simp only [Act.put, List.getElem_toArray, List.getElem_cons_succ, List.getElem_cons_zero, List.setIfInBounds_toArray, List.set_cons_zero, List.set_cons_succ]); refine wpAnyH_ready (rs := [0]) (by kernel_rfl) (by simp) ?_; refine AllReadyH.cons rfl (fun K hK => ?_) ?_; rotate_left; (focus exact AllReadyH.nil); go_simp; refine hK.out _ _ ?_ (fun hHeld => ?_); (focus ((try dsimp only); (first | with_reducible assumption | with_reducible exact Held.start _ | with_reducible exact Held.of (by assumption) | with_reducible exact Held.ex (by assumption) (by assumption) | ((repeat (first | with_reducible refine Held.set ?_ (by simp only [zA, zC, zD, zN]; omega) | with_reducible refine Held.alloc ?_ _ | with_reducible refine Held.drew ?_)); (first | with_reducible assumption | with_reducible exact Held.refl _ | with_reducible exact Held.of (by assumption) | with_reducible exact Held.ex (by assumption) (by assumption))) | exact Held.of (by exact ext_)))); clear hK K; (try simp only [Act.put, List.getElem_toArray, List.getElem_cons_succ, List.getElem_cons_zero, List.setIfInBounds_toArray, List.set_cons_zero, List.set_cons_succ]); refine wpAnyH_ready (rs := [4]) (by kernel_rfl) (by simp) ?_; refine AllReadyH.cons rfl (fun K hK => ?_) ?_; rotate_left; (focus exact AllReadyH.nil); (first | (apply step_app (lo := W0.heap.size) el_D one_D rfl rfl rfl rfl; (first | assumption | exact Ow.nil _ _ | (apply Ow.keep; assumption; exact kf_) | (refine Ow.new [] (by (first | rfl | (simp only [zA, zC, zD, zN]; done) | omega)) rfl rfl (fun _ => rfl) (by exact sz_) (by omega))); (apply Rs.at0 s1; exact kf_); omega; (first | exact Nat.le_refl _ | exact sz_); intro A1 c1 w2 ho1 hch1 hat1 hex1 hlow1; have hbx := hex1 (fun _ => False) W0 (And.right (by assumption : Held W0 _)) (Nat.le_refl _); have hz1 := hbx.size; clear hex1 hlow1) | (apply step_app (lo := W0.heap.size) el_D one_D rfl rfl rfl rfl; (first | assumption | exact Ow.nil _ _ | (apply Ow.keep; assumption; exact kf_) | (refine Ow.new [] (by (first | rfl | (simp only [zA, zC, zD, zN]; done) | omega)) rfl rfl (fun _ => rfl) (by exact sz_) (by omega))); (apply Rs.at0 s2; exact kf_); omega; (first | exact Nat.le_refl _ | exact sz_); intro A1 c1 w2 ho1 hch1 hat1 hex1 hlow1; have hbx := hex1 (fun _ => False) W0 (And.right (by assumption : Held W0 _)) (Nat.le_refl _); have hz1 := hbx.size; clear hex1 hlow1)); (try simp only [Act.put, List.getElem_toArray, List.getElem_cons_succ, List.getElem_cons_zero, List.setIfInBounds_toArray, List.set_cons_zero, List.set_cons_succ]); refine hK.out _ _ ?_ (fun hHeld => ?_); (focus ((try dsimp only); (first | with_reducible assumption | with_reducible exact Held.start _ | with_reducible exact Held.of (by assumption) | with_reducible exact Held.ex (by assumption) (by assumption) | ((repeat (first | with_reducible refine Held.set ?_ (by simp only [zA, zC, zD, zN]; omega) | with_reducible refine Held.alloc ?_ _ | with_reducible refine Held.drew ?_)); (first | with_reducible assumption | with_reducible exact Held.refl _ | with_reducible exact Held.of (by assumption) | with_reducible exact Held.ex (by assumption) (by assumption))) | exact Held.of (by exact ext_)))); clear hK K; (try simp only [Act.put, List.getElem_toArray, List.getElem_cons_succ, List.getElem_cons_zero, List.setIfInBounds_toArray, List.set_cons_zero, List.set_cons_succ]); refine wpAnyH_ready (rs := [9]) (by kernel_rfl) (by simp) ?_; refine AllReadyH.cons rfl (fun K hK => ?_) ?_; rotate_left; (focus exact AllReadyH.nil); (first | (apply step_app (lo := W0.heap.size) el_D one_D rfl rfl rfl rfl; (first | assumption | exact Ow.nil _ _ | (apply Ow.keep; assumption; exact kf_) | (refine Ow.new [] (by (first | rfl | (simp only [zA, zC, zD, zN]; done) | omega)) rfl rfl (fun _ => rfl) (by exact sz_) (by omega))); (apply Rs.at0 s1; exact kf_); omega; (first | exact Nat.le_refl _ | exact sz_); intro A1 c1 w2 ho1 hch1 hat1 hex1 hlow1; have hbx := hex1 (fun _ => False) W0 (And.right (by assumption : Held W0 _)) (Nat.le_refl _); have hz1 := hbx.size; clear hex1 hlow1) | (apply step_app (lo := W0.heap.size) el_D one_D rfl rfl rfl rfl; (first | assumption | exact Ow.nil _ _ | (apply Ow.keep; assumption; exact kf_) | (refine Ow.new [] (by (first | rfl | (simp only [zA, zC, zD, zN]; done) | omega)) rfl rfl (fun _ => rfl) (by exact sz_) (by omega))); (apply Rs.at0 s2; exact kf_); omega; (first | exact Nat.le_refl _ | exact sz_); intro A1 c1 w2 ho1 hch1 hat1 hex1 hlow1; have hbx := hex1 (fun _ => False) W0 (And.right (by assumption : Held W0 _)) (Nat.le_refl _); have hz1 := hbx.size; clear hex1 hlow1)); (try simp only [Act.put, List.getElem_toArray, List.getElem_cons_succ, List.getElem_cons_zero, List.setIfInBounds_toArray, List.set_cons_zero, List.set_cons_succ]); refine hK.out _ _ ?_ (fun hHeld => ?_); (focus ((try dsimp only); (first | with_reducible assumption | with_reducible exact Held.start _ | with_reducible exact Held.of (by assumption) | with_reducible exact Held.ex (by assumption) (by assumption) | ((repeat (first | with_reducible refine Held.set ?_ (by simp only [zA, zC, zD, zN]; omega) | with_reducible refine Held.alloc ?_ _ | with_reducible refine Held.drew ?_)); (first | with_reducible assumption | with_reducible exact Held.refl _ | with_reducible exact Held.of (by assumption) | with_reducible exact Held.ex (by assumption) (by assumption))) | exact Held.of (by exact ext_)))); clear hK K; (try simp only [Act.put, List.getElem_toArray, List.getElem_cons_succ, List.getElem_cons_zero, List.setIfInBounds_toArray, List.set_cons_zero, List.set_cons_succ]); refine regT 10 4 (v := ?_) rfl rfl (by kernel_rfl) (by kernel_rfl) (by kernel_rfl) (fun _ _ _ h => h) (by rfl) ?_ (by assumption) ?_; rotate_left; (focus (intro w hSw; (try dsimp only at hSw); go_simp; (try with_reducible rfl))); (try simp only [Act.put, List.getElem_toArray, List.getElem_cons_succ, List.getElem_cons_zero, List.setIfInBounds_toArray, List.set_cons_zero, List.set_cons_succ]); refine wpAnyH_done (by kernel_rfl) ?_ _; all_goals (have hb := And.right (by assumption : Held W0 _); have hst := xr hb; (try simp only [zA, zC, zD, zN] at hst); obtain ⟨hc, hf, hz⟩ := hst))
    go_wp2_with fail
    go_ret
    rw [List.nil_append, List.append_nil, Nat.zero_add, Nat.add_zero] at ho1
    refine ⟨_, _, by rfl, ?_, ext_⟩
    rw [List.eraseIdx_eq_take_drop_succ, List.drop_of_length_le (by have := hxs.1; omega), List.append_nil]
    exact ho1.less hz0
  · rw [if_neg hck] at s2
    go_enter Try.func260, Try.ntmps260
    go_wp2_with fail
    (refine wp_name ?_; intro W0 hb0; have hst := xr hb0; (try simp only [zA, zC, zD, zN] at hst); obtain ⟨hc0, hf0, hz0⟩ := hst; refine wp_region_held_drew (S := fun w' => Held W0 w') (by kernel_rfl) ?_ (fun hHeld => ?_); (focus ((try dsimp only); (first | with_reducible assumption | with_reducible exact Held.start _ | with_reducible exact Held.of (by assumption) | with_reducible exact Held.ex (by assumption) (by assumption) | ((repeat (first | with_reducible refine Held.set ?_ (by simp only [zA, zC, zD, zN]; omega) | with_reducible refine Held.alloc ?_ _ | with_reducible refine Held.drew ?_)); (first | with_reducible assumption | with_reducible exact Held.refl _ | with_reducible exact Held.of (by assumption) | with_reducible exact Held.ex (by assumption) (by assumption))) | exact Held.of (by exact ext_)))); refine regT 1 6 (v := ?_) rfl rfl (by kernel_rfl) (by kernel_rfl) (by kernel_rfl) (fun _ _ _ h => h) (by rfl) ?_ (by assumption) ?_; rotate_left; (focus (intro w hSw; (try dsimp only at hSw); go_simp; (try with_reducible rfl))); (try simp only [Act.put, List.getElem_toArray, List.getElem_cons_succ, List.getElem_cons_zero, List.setIfInBounds_toArray, List.set_cons_zero, List.set_cons_succ]); refine regT 2 7 (v := ?_) rfl rfl (by kernel_rfl) (by kernel_rfl) (by kernel_rfl) (fun _ _ _ h => h) (by rfl) ?_ (by assumption) ?_; rotate_left; (focus (intro w hSw; (try dsimp only at hSw); go_simp; (try with_reducible rfl))); (try simp only [Act.put, List.getElem_toArray, List.getElem_cons_succ, List.getElem_cons_zero, List.setIfInBounds_toArray, List.set_cons_zero, List.set_cons_succ]); refine regT 3 8 (v := ?_) rfl rfl (by kernel_rfl) (by kernel_rfl) (by kernel_rfl) (fun _ _ _ h => h) (by rfl) ?_ (by assumption) ?_; rotate_left; (focus (intro w hSw; (try dsimp only at hSw); go_simp; (try with_reducible rfl))); (try simp only [Act.put, List.getElem_toArray, List.getElem_cons_succ, List.getElem_cons_zero, List.setIfInBounds_toArray, List.set_cons_zero, List.set_cons_succ]); refine regT 5 10 (v := ?_) rfl rfl (by kernel_rfl) (by kernel_rfl) (by kernel_rfl) (fun _ _ _ h => h) (by rfl) ?_ (by assumption) ?_; rotate_left; (focus (intro w hSw; (try dsimp only at hSw); go_simp; (try with_reducible rfl))); (try simp only [Act.put, List.getElem_toArray, List.getElem_cons_succ, List.getElem_cons_zero, List.setIfInBounds_toArray, List.set_cons_zero, List.set_cons_succ]); refine regT 6 11 (v := ?_) rfl rfl (by kernel_rfl) (by kernel_rfl) (by kernel_rfl) (fun _ _ _ h => h) (by rfl) ?_ (by assumption) ?_; rotate_left; (focus (intro w hSw; (try dsimp only at hSw); go_simp; (try with_reducible rfl))); (try simp only [Act.put, List.getElem_toArray, List.getElem_cons_succ, List.getElem_cons_zero, List.setIfInBounds_toArray, List.set_cons_zero, List.set_cons_succ]); refine regT 7 12 (v := ?_) rfl rfl (by kernel_rfl) (by kernel_rfl) (by kernel_rfl) (fun _ _ _ h => h) (by rfl) ?_ (by assumption) ?_; rotate_left; (focus (intro w hSw; (try dsimp only at hSw); go_simp; (try with_reducible rfl))); (try simp only [Act.put, List.getElem_toArray, List.getElem_cons_succ, List.getElem_cons_zero, List.setIfInBounds_toArray, List.set_cons_zero, List.set_cons_succ]); refine regT 8 13 (v := ?_) rfl rfl (by kernel_rfl) (by kernel_rfl) (by kernel_rfl) (fun _ _ _ h => h) (by rfl) ?_ (by assumption) ?_; rotate_left; (focus (intro w hSw; (try dsimp only at hSw); go_simp; (try with_reducible rfl))); (try simp only [Act.put, List.getElem_toArray, List.getElem_cons_succ, List.getElem_cons_zero, List.setIfInBounds_toArray, List.set_cons_zero, List.set_cons_succ]); refine wpAnyH_ready (rs := [0]) (by kernel_rfl) (by simp) ?_; refine AllReadyH.cons rfl (fun K hK => ?_) ?_; rotate_left; (focus exact AllReadyH.nil); go_simp; refine hK.out _ _ ?_ (fun hHeld => ?_); (focus ((try dsimp only); (first | with_reducible assumption | with_reducible exact Held.start _ | with_reducible exact Held.of (by assumption) | with_reducible exact Held.ex (by assumption) (by assumption) | ((repeat (first | with_reducible refine Held.set ?_ (by simp only [zA, zC, zD, zN]; omega) | with_reducible refine Held.alloc ?_ _ | with_reducible refine Held.drew ?_)); (first | with_reducible assumption | with_reducible exact Held.refl _ | with_reducible exact Held.of (by assumption) | with_reducible exact Held.ex (by assumption) (by assumption))) | exact Held.of (by exact ext_)))); clear hK K; (try simp only [Act.put, List.getElem_toArray, List.getElem_cons_succ, List.getElem_cons_zero, List.setIfInBounds_toArray, List.set_cons_zero, List.set_cons_succ]); refine wpAnyH_ready (rs := [4]) (by kernel_rfl) (by simp) ?_; refine AllReadyH.cons rfl (fun K hK => ?_) ?_; rotate_left; (focus exact AllReadyH.nil); (first | (apply step_app (lo := W0.heap.size) el_D one_D rfl rfl rfl rfl; (first | assumption | exact Ow.nil _ _ | (apply Ow.keep; assumption; exact kf_) | (refine Ow.new [] (by (first | rfl | (simp only [zA, zC, zD, zN]; done) | omega)) rfl rfl (fun _ => rfl) (by exact sz_) (by omega))); (apply Rs.at0 s1; exact kf_); omega; (first | exact Nat.le_refl _ | exact sz_); intro A1 c1 w2 ho1 hch1 hat1 hex1 hlow1; have hbx := hex1 (fun _ => False) W0 (And.right (by assumption : Held W0 _)) (Nat.le_refl _); have hz1 := hbx.size; clear hex1 hlow1) | (apply step_app (lo := W0.heap.size) el_D one_D rfl rfl rfl rfl; (first | assumption | exact Ow.nil _ _ | (apply Ow.keep; assumption; exact kf_) | (refine Ow.new [] (by (first | rfl | (simp only [zA, zC, zD, zN]; done) | omega)) rfl rfl (fun _ => rfl) (by exact sz_) (by omega))); (apply Rs.at0 s2; exact kf_); omega; (first | exact Nat.le_refl _ | exact sz_); intro A1 c1 w2 ho1 hch1 hat1 hex1 hlow1; have hbx := hex1 (fun _ => False) W0 (And.right (by assumption : Held W0 _)) (Nat.le_refl _); have hz1 := hbx.size; clear hex1 hlow1)); (try simp only [Act.put, List.getElem_toArray, List.getElem_cons_succ, List.getElem_cons_zero, List.setIfInBounds_toArray, List.set_cons_zero, List.set_cons_succ]); refine hK.out _ _ ?_ (fun hHeld => ?_); (focus ((try dsimp only); (first | with_reducible assumption | with_reducible exact Held.start _ | with_reducible exact Held.of (by assumption) | with_reducible exact Held.ex (by assumption) (by assumption) | ((repeat (first | with_reducible refine Held.set ?_ (by simp only [zA, zC, zD, zN]; omega) | with_reducible refine Held.alloc ?_ _ | with_reducible refine Held.drew ?_)); (first | with_reducible assumption | with_reducible exact Held.refl _ | with_reducible exact Held.of (by assumption) | with_reducible exact Held.ex (by assumption) (by assumption))) | exact Held.of (by exact ext_)))); clear hK K; (try simp only [Act.put, List.getElem_toArray, List.getElem_cons_succ, List.getElem_cons_zero, List.setIfInBounds_toArray, List.set_cons_zero, List.set_cons_succ]); refine wpAnyH_ready (rs := [9]) (by kernel_rfl) (by simp) ?_; refine AllReadyH.cons rfl (fun K hK => ?_) ?_; rotate_left; (focus exact AllReadyH.nil); (first | (apply step_app (lo := W0.heap.size) el_D one_D rfl rfl rfl rfl; (first | assumption | exact Ow.nil _ _ | (apply Ow.keep; assumption; exact kf_) | (refine Ow.new [] (by (first | rfl | (simp only [zA, zC, zD, zN]; done) | omega)) rfl rfl (fun _ => rfl) (by exact sz_) (by omega))); (apply Rs.at0 s1; exact kf_); omega; (first | exact Nat.le_refl _ | exact sz_); intro A1 c1 w2 ho1 hch1 hat1 hex1 hlow1; have hbx := hex1 (fun _ => False) W0 (And.right (by assumption : Held W0 _)) (Nat.le_refl _); have hz1 := hbx.size; clear hex1 hlow1) | (apply step_app (lo := W0.heap.size) el_D one_D rfl rfl rfl rfl; (first | assumption | exact Ow.nil _ _ | (apply Ow.keep; assumption; exact kf_) | (refine Ow.new [] (by (first | rfl | (simp only [zA, zC, zD, zN]; done) | omega)) rfl rfl (fun _ => rfl) (by exact sz_) (by omega))); (apply Rs.at0 s2; exact kf_); omega; (first | exact Nat.le_refl _ | exact sz_); intro A1 c1 w2 ho1 hch1 hat1 hex1 hlow1; have hbx := hex1 (fun _ => False) W0 (And.right (by assumption : Held W0 _)) (Nat.le_refl _); have hz1 := hbx.size; clear hex1 hlow1)); (try simp only [Act.put, List.getElem_toArray, List.getElem_cons_succ, List.getElem_cons_zero, List.setIfInBounds_toArray, List.set_cons_zero, List.set_cons_succ]); refine hK.out _ _ ?_ (fun hHeld => ?_); (focus ((try dsimp only); (first | with_reducible assumption | with_reducible exact Held.start _ | with_reducible exact Held.of (by assumption) | with_reducible exact Held.ex (by assumption) (by assumption) | ((repeat (first | with_reducible refine Held.set ?_ (by simp only [zA, zC, zD, zN]; omega) | with_reducible refine Held.alloc ?_ _ | with_reducible refine Held.drew ?_)); (first | with_reducible assumption | with_reducible exact Held.refl _ | with_reducible exact Held.of (by assumption) | with_reducible exact Held.ex (by assumption) (by assumption))) | exact Held.of (by exact ext_)))); clear hK K; (try simp only [Act.put, List.getElem_toArray, List.getElem_cons_succ, List.getElem_cons_zero, List.setIfInBounds_toArray, List.set_cons_zero, List.set_cons_succ]); refine regT 10 4 (v := ?_) rfl rfl (by kernel_rfl) (by kernel_rfl) (by kernel_rfl) (fun _ _ _ h => h) (by rfl) ?_ (by assumption) ?_; rotate_left; (focus (intro w hSw; (try dsimp only at hSw); go_simp; (try with_reducible rfl))); (try simp only [Act.put, List.getElem_toArray, List.getElem_cons_succ, List.getElem_cons_zero, List.setIfInBounds_toArray, List.set_cons_zero, List.set_cons_succ]); refine wpAnyH_done (by kernel_rfl) ?_ _; all_goals (have hb := And.right (by assumption : Held W0 _); have hst := xr hb; (try simp only [zA, zC, zD, zN] at hst); obtain ⟨hc, hf, hz⟩ := hst))
    go_wp2_with fail
    go_ret
    rw [List.nil_append, ← List.eraseIdx_eq_take_drop_succ, Nat.zero_add, show k + (n - (k + 1)) = n - 1 from by omega] at ho1
    refine ⟨A1, c1, ?_, ho1.less hz0, ext_⟩
    rw [show k + (n - (k + 1)) = n - 1 from by omega]
    rfl
theorem insertDeal_step (d y : Sw.Deal) (r : List Sw.Deal) : Sw.insertDeal d (y :: r) = if d.ticket < y.ticket then d :: y :: r else y :: Sw.insertDeal d r := by rw [Sw.insertDeal]
theorem sPut_c (A : Option Addr) (c n : Nat) (ds : List Sw.Deal) (d : Sw.Deal) (w : World) (hxs : RDl w 0 A c n ds) (hn : n ≤ 4194304) : Calls Try.prog 261 #[.slice A n c, .agg #[.int .i64 d.ticket, .int .i64 d.seller, .int .i64 d.price, .int .i64 d.buyer, .int .i64 d.due]] w fun E w' => ∃ A' c', E = .returned (.slice A' (n + 1) c') ∧ OwD w' w.heap.size A' c' (n + 1) (Sw.insertDeal d ds) ∧ Ex w w' := by
  have hl := Lib.hid hxs.1
  go_enter Try.func261, Try.ntmps261
  go_wp2_with fail
  go_loopw [5, 6, 7] (fun o f i wr => ∃ (k : Nat) (dn : Bool) (B : Option Addr) (e : Nat) (m : Nat) (es : List Sw.Deal), k ≤ n ∧ i = .int .i64 k ∧ f = .bool dn ∧ o = .slice B m e ∧ (m = k + if dn then 1 else 0) ∧ Ex (w.alloc (.cells #[.int .i64 d.ticket, .int .i64 d.seller, .int .i64 d.price, .int .i64 d.buyer, .int .i64 d.due] 103)) wr ∧ OwD wr (w.heap.size + 1) B e m es ∧
    Sw.insertDeal d ds = (if dn then es ++ ds.drop k else es ++ Sw.insertDeal d (ds.drop k))) (fun _ _ i _ => n - (intOf i).toNat)
  case atStart =>
    exact ⟨0, false, some ⟨w.heap.size + 1, 0, none⟩, 0, 0, [], Nat.zero_le _, rfl, rfl, rfl, rfl, ext_, Ow.new [] (by simp) rfl rfl (fun _ => rfl) (Nat.le_refl _) (by omega), by simp⟩
  case round =>
    obtain ⟨k, dn, B, e, m, es, hk, rfl, rfl, rfl, hm, hb, ho, heq⟩ := hrel
    have hst := Ex.rules hb rfl
    (try simp only [zA, zC, zD] at hst)
    obtain ⟨hc, hf, hz⟩ := hst
    have HE := Lib.hid heq; clear heq
    have HM := Lib.hid hm
    have hmn : m ≤ n + 1 := by rw [hm]; split <;> omega
    clear hm
    by_cases hlt : k < n
    · obtain ⟨g, off, y, rfl, hg0, hg, hd, hy, hc0, hc1, hc2, hc3, hc4⟩ := at_D hxs hlt
      have HD := Lib.hid hd; clear hd hy
      cases dn
      case true =>
        go_wp2_with fail
        (go_quiet ((first | fail)); all_goals (generalize hWq : World.drewN _ nq = W0; have hb0 := Ex.ofN hWq; clear hWq; have hst := xr hb0; (try simp only [zA, zC, zD, zN] at hst); obtain ⟨hc0, hf0, hz0⟩ := hst))
        go_wp2_with (at_builtin; apply wpList_app (lo := w.heap.size + 1) el_D one_D rfl rfl rfl rfl; (first | assumption | exact Ow.nil _ _ | (apply Ow.keep; assumption; exact kf_) | (refine Ow.new [] (by (first | rfl | (simp only [zA, zC, zD, zN]; done) | omega)) rfl rfl (fun _ => rfl) (by exact sz_) (by omega))); (first | (refine Rs.new [y] (by (first | rfl | (simp only [zA, zC, zD, zN]; done) | omega)) rfl rfl (fun _ => rfl) (by omega))); omega; exact sz_; intro A1 c1 w2 ho1 hch1 hat1 hex1 hlow1; have hb := hex1 (fun _ => False) (w.alloc (.cells #[.int .i64 d.ticket, .int .i64 d.seller, .int .i64 d.price, .int .i64 d.buyer, .int .i64 d.due] 103)) (by exact ext_) (by exact sz_); have hz := hch1.size; (try simp only [zA, zC, zD, zN] at hz); obtain ⟨hc, hf⟩ := low_rules hlow1; clear hlow1 hex1)
        go_roundw
        case rel => exact ⟨k + 1, true, A1, c1, m + 1, es ++ [y], by omega, by go_num, rfl, rfl, by have := HM.out; simp at this ⊢; omega, hb, ho1, by rw [HE.out, HD.out]; simp⟩
        case measure => simp [intOf]; omega
      case false =>
        have HI := Lib.hid (insertDeal_step d y (ds.drop (k + 1)))
        by_cases hcmp : d.ticket < y.ticket
        · go_wp2_with fail
          (go_quiet ((first | fail)); all_goals (generalize hWq : World.drewN _ nq = W0; have hb0 := Ex.ofN hWq; clear hWq; have hst := xr hb0; (try simp only [zA, zC, zD, zN] at hst); obtain ⟨hc0, hf0, hz0⟩ := hst))
          go_wp2_with (first | (at_builtin; apply wpList_app (lo := w.heap.size + 1) el_D one_D rfl rfl rfl rfl; (first | assumption | exact Ow.nil _ _ | (apply Ow.keep; assumption; exact kf_) | (refine Ow.new [] (by (first | rfl | (simp only [zA, zC, zD, zN]; done) | omega)) rfl rfl (fun _ => rfl) (by exact sz_) (by omega))); (first | (refine Rs.new [d] (by (first | rfl | (simp only [zA, zC, zD, zN]; done) | omega)) rfl rfl (fun _ => rfl) (by omega))); omega; exact sz_; intro A1 c1 w2 ho1 hch1 hat1 hex1 hlow1; have hb := hex1 (fun _ => False) (w.alloc (.cells #[.int .i64 d.ticket, .int .i64 d.seller, .int .i64 d.price, .int .i64 d.buyer, .int .i64 d.due] 103)) (by exact ext_) (by exact sz_); have hz := hch1.size; (try simp only [zA, zC, zD, zN] at hz); obtain ⟨hc, hf⟩ := low_rules hlow1; clear hlow1 hex1) | (at_builtin; apply wpList_app (lo := w.heap.size + 1) el_D one_D rfl rfl rfl rfl; (first | assumption | exact Ow.nil _ _ | (apply Ow.keep; assumption; exact kf_) | (refine Ow.new [] (by (first | rfl | (simp only [zA, zC, zD, zN]; done) | omega)) rfl rfl (fun _ => rfl) (by exact sz_) (by omega))); (first | (refine Rs.new [y] (by (first | rfl | (simp only [zA, zC, zD, zN]; done) | omega)) rfl rfl (fun _ => rfl) (by omega))); omega; exact sz_; intro A1 c1 w2 ho1 hch1 hat1 hex1 hlow1; have hb := hex1 (fun _ => False) (w.alloc (.cells #[.int .i64 d.ticket, .int .i64 d.seller, .int .i64 d.price, .int .i64 d.buyer, .int .i64 d.due] 103)) (by exact ext_) (by exact sz_); have hz := hch1.size; (try simp only [zA, zC, zD, zN] at hz); obtain ⟨hc, hf⟩ := low_rules hlow1; clear hlow1 hex1))
          go_roundw
          case rel => exact ⟨k + 1, true, A1, c1, m + 1 + 1, es ++ [d] ++ [y], by omega, by go_num, rfl, rfl, by have := HM.out; simp at this ⊢; omega, hb, ho1, by rw [HE.out, HD.out, HI.out]; simp [hcmp]⟩
          case measure => simp [intOf]; omega
        · have HC := Lib.hid hcmp
          go_wp2_with fail
          (go_quiet ((first | fail)); all_goals (generalize hWq : World.drewN _ nq = W0; have hb0 := Ex.ofN hWq; clear hWq; have hst := xr hb0; (try simp only [zA, zC, zD, zN] at hst); obtain ⟨hc0, hf0, hz0⟩ := hst))
          go_wp2_with (at_builtin; apply wpList_app (lo := w.heap.size + 1) el_D one_D rfl rfl rfl rfl; (first | assumption | exact Ow.nil _ _ | (apply Ow.keep; assumption; exact kf_) | (refine Ow.new [] (by (first | rfl | (simp only [zA, zC, zD, zN]; done) | omega)) rfl rfl (fun _ => rfl) (by exact sz_) (by omega))); (first | (refine Rs.new [y] (by (first | rfl | (simp only [zA, zC, zD, zN]; done) | omega)) rfl rfl (fun _ => rfl) (by omega))); omega; exact sz_; intro A1 c1 w2 ho1 hch1 hat1 hex1 hlow1; have hb := hex1 (fun _ => False) (w.alloc (.cells #[.int .i64 d.ticket, .int .i64 d.seller, .int .i64 d.price, .int .i64 d.buyer, .int .i64 d.due] 103)) (by exact ext_) (by exact sz_); have hz := hch1.size; (try simp only [zA, zC, zD, zN] at hz); obtain ⟨hc, hf⟩ := low_rules hlow1; clear hlow1 hex1)
          go_roundw
          case rel => exact ⟨k + 1, false, A1, c1, m + 1, es ++ [y], by omega, by go_num, rfl, rfl, by have := HM.out; simp at this ⊢; omega, hb, ho1, by rw [HE.out, HD.out, HI.out]; have := HC.out; simp [show ¬ d.ticket < y.ticket from by omega]⟩
          case measure => simp [intOf]; omega
    · obtain rfl : k = n := by omega
      cases dn
      all_goals go_wp2_with (at_builtin; apply wpList_app (lo := w.heap.size + 1) el_D one_D rfl rfl rfl rfl; (first | assumption | exact Ow.nil _ _ | (apply Ow.keep; assumption; exact kf_) | (refine Ow.new [] (by (first | rfl | (simp only [zA, zC, zD, zN]; done) | omega)) rfl rfl (fun _ => rfl) (by exact sz_) (by omega))); (first | (refine Rs.new [d] (by (first | rfl | (simp only [zA, zC, zD, zN]; done) | omega)) rfl rfl (fun _ => rfl) (by omega))); omega; exact sz_; intro A1 c1 w2 ho1 hch1 hat1 hex1 hlow1; have hb := hex1 (fun _ => False) (w.alloc (.cells #[.int .i64 d.ticket, .int .i64 d.seller, .int .i64 d.price, .int .i64 d.buyer, .int .i64 d.due] 103)) (by exact ext_) (by exact sz_); have hz := hch1.size; (try simp only [zA, zC, zD, zN] at hz); obtain ⟨hc, hf⟩ := low_rules hlow1; clear hlow1 hex1)
      all_goals go_ret
      · have hmk : m + 1 = k + 1 := by have := HM.out; simp at this; omega
        rw [hmk] at ho1 ⊢
        refine ⟨A1, c1, rfl, ?_, ext_⟩
        rw [HE.out, List.drop_of_length_le (by have := hl.out; omega)]
        exact ho1.less (by omega)
      · have hmk : m = k + 1 := by have := HM.out; simp at this; omega
        rw [hmk] at ho ⊢
        refine ⟨B, e, rfl, ?_, ext_⟩
        rw [HE.out, List.drop_of_length_le (by have := hl.out; omega)]
        simp
        exact ho.less (by omega)
end Go.Proofs.Ytncoiknpkebgoaa

namespace Go.Proofs.Ytncoiknpkebgoaa
set_option maxRecDepth 100000
set_option linter.unusedSimpArgs false
set_option linter.unusedVariables false
open Go.RowKit Go
set_option maxHeartbeats 400000

theorem sumFrom_cons (s x : Int) (xs : List Int) : Sw.sumFrom s (x :: xs) = Sw.sumFrom (wrap64 (s + x)) xs := rfl
theorem heldFrom_cons (s : Int) (d : Sw.Deal) (ds : List Sw.Deal) : Sw.heldFrom s (d :: ds) = Sw.heldFrom (Sw.heldStep s d) ds := rfl
theorem heldStep_y {s : Int} {d : Sw.Deal} (h : 0 < d.buyer) : Sw.heldStep s d = wrap64 (s + d.price) := by simp [Sw.heldStep, Sw.held, h]
theorem heldStep_n {s : Int} {d : Sw.Deal} (h : ¬ 0 < d.buyer) : Sw.heldStep s d = s := by simp [Sw.heldStep, Sw.held, h]

theorem sMonSum_c (A : Option Addr) (c n : Nat) (xs : List Int) (w : World) (hxs : RI w 0 A c n xs) : Calls Try.prog 73 #[.slice A n c] w fun E w' => E = .returned (.int .i64 (Sw.monSum xs)) ∧ w = w' := by
  have hl := Lib.hid hxs.1
  have hbig := Rs.big hxs
  go_enter Try.func73, Try.ntmps73
  go_wp2
  go_loop [3, 4] (fun v i => ∃ (k : Nat) (s : Int), k ≤ n ∧ i = .int .i64 k ∧ v = .int .i64 s ∧ Sw.monSum xs = Sw.sumFrom s (xs.drop k)) (fun _ i => n - (intOf i).toNat)
  case atStart => exact ⟨0, 0, Nat.zero_le _, rfl, rfl, rfl⟩
  case round =>
    obtain ⟨k, s, hk, rfl, rfl, hrel⟩ := hrel
    by_cases hlt : k < n
    · obtain ⟨g, off, y, rfl, hg0, hg, hd, hy, hc⟩ := at_I hxs hlt
      rw [hd, sumFrom_cons] at hrel
      have Hrel := Lib.hid hrel; clear hrel hd hy
      go_wp2
      go_round
      case rel => exact ⟨k + 1, _, by omega, by go_num, rfl, Hrel.out⟩
      case measure => simp [intOf]; omega
    · have Hrel := Lib.hid hrel; clear hrel
      go_wp2
      go_ret
      refine ⟨ret_i ?_, rfl⟩
      rw [Hrel.out, List.drop_of_length_le (by have := hl.out; omega)]
      rfl
theorem iMonSum_c (A : Option Addr) (c n : Nat) (xs : List Int) (w : World) (hxs : RI w 0 A c n xs) : Calls Try.prog 42 #[.slice A n c] w fun E w' => E = .returned (.int .i64 (Sw.monSum xs)) ∧ w = w' := by
  have hl := Lib.hid hxs.1
  have hbig := Rs.big hxs
  go_enter Try.func42, Try.ntmps42
  go_wp2
  go_loop [3, 8] (fun v i => ∃ (k : Nat) (s : Int), k ≤ n ∧ i = .int .i64 k ∧ v = .int .i64 s ∧ Sw.monSum xs = Sw.sumFrom s (xs.drop k)) (fun _ i => n - (intOf i).toNat)
  case atStart => exact ⟨0, 0, Nat.zero_le _, rfl, rfl, rfl⟩
  case round =>
    obtain ⟨k, s, hk, rfl, rfl, hrel⟩ := hrel
    by_cases hlt : k < n
    · obtain ⟨g, off, y, rfl, hg0, hg, hd, hy, hc⟩ := at_I hxs hlt
      rw [hd, sumFrom_cons] at hrel
      have Hrel := Lib.hid hrel; clear hrel hd hy
      go_wp2
      go_round
      case rel => exact ⟨k + 1, _, by omega, by go_num, rfl, Hrel.out⟩
      case measure => simp [intOf]; omega
    · have Hrel := Lib.hid hrel; clear hrel
      go_wp2
      go_ret
      refine ⟨ret_i ?_, rfl⟩
      rw [Hrel.out, List.drop_of_length_le (by have := hl.out; omega)]
      rfl

theorem iHeld_c (d : Sw.Deal) (w : World) : Calls Try.prog 142 #[.agg #[.int .i64 d.ticket, .int .i64 d.seller, .int .i64 d.price, .int .i64 d.buyer, .int .i64 d.due]] w fun E w' => E = .returned (.bool (Sw.held d)) ∧ Ex w w' := by
  go_enter Try.func142, Try.ntmps142
  go_wp2_with fail
  go_ret
  exact ⟨rfl, ext_⟩

theorem sMktHeld_c (aL : Option Addr) (aLc aLn : Nat) (aP : Option Addr) (aPc aPn : Nat) (aD : Option Addr) (aDc aDn : Nat) (aN : Option Addr) (aNc aNn : Nat) (aS : Option Addr) (aSc aSn : Nat) (m : Sw.Mkt) (w : World) (hm : RM w 0 aL aLc aLn aP aPc aPn aD aDc aDn aN aNc aNn aS aSc aSn m) : Calls Try.prog 74 #[.agg #[.slice aL aLn aLc, .slice aP aPn aPc, .slice aD aDn aDc, .int .i64 m.clock, .slice aN aNn aNc, .slice aS aSn aSc]] w fun E w' => E = .returned (.int .i64 (Sw.mktHeld m)) ∧ Ex w w' := by
  have hxs := hm.deals
  clear hm
  have hl := Lib.hid hxs.1
  have hbig := Rs.big hxs
  go_enter Try.func74, Try.ntmps74
  go_wp2_with fail
  go_loop [3, 4] (fun v i => ∃ (k : Nat) (s : Int), k ≤ aDn ∧ i = .int .i64 k ∧ v = .int .i64 s ∧ Sw.mktHeld m = Sw.heldFrom s (m.deals.drop k)) (fun _ i => aDn - (intOf i).toNat)
  case atStart => exact ⟨0, 0, Nat.zero_le _, rfl, rfl, rfl⟩
  case round =>
    obtain ⟨k, s, hk, rfl, rfl, hrel⟩ := hrel
    by_cases hlt : k < aDn
    · obtain ⟨g, off, y, rfl, hg0, hg, hd, hy, q0, q1, q2, q3, q4⟩ := at_D hxs hlt
      rw [hd, heldFrom_cons] at hrel
      have Hrel := Lib.hid hrel; clear hrel hd hy
      by_cases hb : 0 < y.buyer
      · go_wp2
        go_round
        case rel => exact ⟨k + 1, _, by omega, by go_num, rfl, by rw [Hrel.out, heldStep_y hb]⟩
        case measure => simp [intOf]; omega
      · go_wp2
        go_round
        case rel => exact ⟨k + 1, _, by omega, by go_num, rfl, by rw [Hrel.out, heldStep_n hb]⟩
        case measure => simp [intOf]; omega
    · have Hrel := Lib.hid hrel; clear hrel
      go_wp2
      go_ret
      refine ⟨ret_i ?_, ext_⟩
      rw [Hrel.out, List.drop_of_length_le (by have := hl.out; omega)]
      rfl
theorem iMktHeld_c (aL : Option Addr) (aLc aLn : Nat) (aP : Option Addr) (aPc aPn : Nat) (aD : Option Addr) (aDc aDn : Nat) (aN : Option Addr) (aNc aNn : Nat) (aS : Option Addr) (aSc aSn : Nat) (m : Sw.Mkt) (w : World) (hm : RM w 0 aL aLc aLn aP aPc aPn aD aDc aDn aN aNc aNn aS aSc aSn m) : Calls Try.prog 62 #[.agg #[.slice aL aLn aLc, .slice aP aPn aPc, .slice aD aDn aDc, .int .i64 m.clock, .slice aN aNn aNc, .slice aS aSn aSc]] w fun E w' => E = .returned (.int .i64 (Sw.mktHeld m)) ∧ Ex w w' := by
  have hxs := hm.deals
  clear hm
  have hl := Lib.hid hxs.1
  have hbig := Rs.big hxs
  go_enter Try.func62, Try.ntmps62
  go_wp2_with fail
  go_loopw [3, 9] (fun v i wr => ∃ (k : Nat) (s : Int), k ≤ aDn ∧ i = .int .i64 k ∧ v = .int .i64 s ∧ Ex w wr ∧ Sw.mktHeld m = Sw.heldFrom s (m.deals.drop k)) (fun _ i _ => aDn - (intOf i).toNat)
  case atStart => exact ⟨0, 0, Nat.zero_le _, rfl, rfl, ext_, rfl⟩
  case round =>
    obtain ⟨k, s, hk, rfl, rfl, hb2, hrel⟩ := hrel
    have hst := Ex.rules hb2 rfl
    obtain ⟨hc2, hf2, hz2⟩ := hst
    by_cases hlt : k < aDn
    · obtain ⟨g, off, y, rfl, hg0, hg, hd, hy, q0, q1, q2, q3, q4⟩ := at_D hxs hlt
      rw [hd, heldFrom_cons] at hrel
      have Hrel := Lib.hid hrel; clear hrel hd hy
      cases hb : Sw.held y with
      | true =>
        go_wp2_with (go_at_call 142; apply Calls.mono; apply (iHeld_c y); rintro E w1 ⟨rfl, hb⟩; have hst := xr hb; (try simp only [zA, zC, zD, zN] at hst); obtain ⟨hc, hf, hz⟩ := hst)
        go_roundw
        case rel => exact ⟨k + 1, _, by omega, by go_num, rfl, ext_, by rw [Hrel.out, Sw.heldStep, if_pos (by assumption)]⟩
        case measure => simp [intOf]; omega
      | false =>
        go_wp2_with (go_at_call 142; apply Calls.mono; apply (iHeld_c y); rintro E w1 ⟨rfl, hb⟩; have hst := xr hb; (try simp only [zA, zC, zD, zN] at hst); obtain ⟨hc, hf, hz⟩ := hst)
        go_roundw
        case rel => exact ⟨k + 1, _, by omega, by go_num, rfl, ext_, by rw [Hrel.out, Sw.heldStep, if_neg (by simp [*])]⟩
        case measure => simp [intOf]; omega
    · have Hrel := Lib.hid hrel; clear hrel
      go_wp2_with fail
      go_ret
      refine ⟨ret_i ?_, ext_⟩
      rw [Hrel.out, List.drop_of_length_le (by have := hl.out; omega)]
      rfl
theorem sWldMoney_c (aF : Option Addr) (aFc aFn : Nat) (aL : Option Addr) (aLc aLn : Nat) (aP : Option Addr) (aPc aPn : Nat) (aD : Option Addr) (aDc aDn : Nat) (aN : Option Addr) (aNc aNn : Nat) (aS : Option Addr) (aSc aSn : Nat) (aI : Option Addr) (aIc aIn : Nat) (aG : Option Addr) (aGc aGn : Nat) (aB : Option Addr) (aBc aBn : Nat) (x : Sw.World) (w : World) (hx : RW w 0 aF aFc aFn aL aLc aLn aP aPc aPn aD aDc aDn aN aNc aNn aS aSc aSn aI aIc aIn aG aGc aGn aB aBc aBn x) : Calls Try.prog 14 #[.agg #[.slice aF aFn aFc, .slice aL aLn aLc, .slice aP aPn aPc, .slice aD aDn aDc, .int .i64 x.market.clock, .slice aN aNn aNc, .slice aS aSn aSc, .slice aI aIn aIc, .slice aG aGn aGc, .slice aB aBn aBc]] w fun E w' => E = .returned (.int .i64 (Sw.wldMoney x)) ∧ Ex w w' := by
  have hm := hx.mkt
  have hp := hm.purses
  clear hx
  go_enter Try.func14, Try.ntmps14
  go_wp2_with (first | (go_at_call 73; apply Calls.mono; apply sMonSum_c; ((first | (apply Rs.at0; assumption) | (apply Ow.rs0; assumption)); exact kf_); rintro E w' ⟨rfl, rfl⟩) | (go_at_call 74; apply Calls.mono; apply sMktHeld_c; ((first | (apply RM.at0; assumption)); exact kf_); rintro E w1 ⟨rfl, hb⟩; have hst := xr hb; (try simp only [zA, zC, zD, zN] at hst); obtain ⟨hc, hf, hz⟩ := hst))
  try (refine wp_name ?_; intro W0 hb0; have hst := xr hb0; (try simp only [zA, zC, zD, zN] at hst); obtain ⟨hc0, hf0, hz0⟩ := hst; go_region_held3 (fun w' => Held W0 w') ((first | with_reducible assumption | with_reducible exact Held.start _ | with_reducible exact Held.of (by assumption) | with_reducible exact Held.ex (by assumption) (by assumption) | ((repeat (first | with_reducible refine Held.set ?_ (by simp only [zA, zC, zD, zN]; omega) | with_reducible refine Held.alloc ?_ _ | with_reducible refine Held.drew ?_)); (first | with_reducible assumption | with_reducible exact Held.refl _ | with_reducible exact Held.of (by assumption) | with_reducible exact Held.ex (by assumption) (by assumption))) | exact Held.of (by exact ext_))) ((first | (go_at_call 73; apply Calls.mono; apply sMonSum_c; ((first | (apply Rs.at0; assumption) | (apply Ow.rs0; assumption)); exact kf_); rintro E w' ⟨rfl, rfl⟩) | (go_at_call 74; apply Calls.mono; apply sMktHeld_c; ((first | (apply RM.at0; assumption)); exact kf_); rintro E w1 ⟨rfl, hb⟩; have hst := xr hb; (try simp only [zA, zC, zD, zN] at hst); obtain ⟨hc, hf, hz⟩ := hst))); all_goals (have hb := And.right (by assumption : Held W0 _); have hst := xr hb; (try simp only [zA, zC, zD, zN] at hst); obtain ⟨hc, hf, hz⟩ := hst))
  go_wp2
  go_ret
  exact ⟨ret_i (IntWalk.i64_left _), ext_⟩
theorem iWldMoney_c (aF : Option Addr) (aFc aFn : Nat) (aL : Option Addr) (aLc aLn : Nat) (aP : Option Addr) (aPc aPn : Nat) (aD : Option Addr) (aDc aDn : Nat) (aN : Option Addr) (aNc aNn : Nat) (aS : Option Addr) (aSc aSn : Nat) (aI : Option Addr) (aIc aIn : Nat) (aG : Option Addr) (aGc aGn : Nat) (aB : Option Addr) (aBc aBn : Nat) (x : Sw.World) (w : World) (hx : RW w 0 aF aFc aFn aL aLc aLn aP aPc aPn aD aDc aDn aN aNc aNn aS aSc aSn aI aIc aIn aG aGc aGn aB aBc aBn x) : Calls Try.prog 16 #[.agg #[.slice aF aFn aFc, .slice aL aLn aLc, .slice aP aPn aPc, .slice aD aDn aDc, .int .i64 x.market.clock, .slice aN aNn aNc, .slice aS aSn aSc, .slice aI aIn aIc, .slice aG aGn aGc, .slice aB aBn aBc]] w fun E w' => E = .returned (.int .i64 (Sw.wldMoney x)) ∧ Ex w w' := by
  have hm := hx.mkt
  have hp := hm.purses
  clear hx
  go_enter Try.func16, Try.ntmps16
  go_wp2_with (first | (go_at_call 42; apply Calls.mono; apply iMonSum_c; ((first | (apply Rs.at0; assumption) | (apply Ow.rs0; assumption)); exact kf_); rintro E w' ⟨rfl, rfl⟩) | (go_at_call 62; apply Calls.mono; apply iMktHeld_c; ((first | (apply RM.at0; assumption)); exact kf_); rintro E w1 ⟨rfl, hb⟩; have hst := xr hb; (try simp only [zA, zC, zD, zN] at hst); obtain ⟨hc, hf, hz⟩ := hst))
  try (refine wp_name ?_; intro W0 hb0; have hst := xr hb0; (try simp only [zA, zC, zD, zN] at hst); obtain ⟨hc0, hf0, hz0⟩ := hst; go_region_held3 (fun w' => Held W0 w') ((first | with_reducible assumption | with_reducible exact Held.start _ | with_reducible exact Held.of (by assumption) | with_reducible exact Held.ex (by assumption) (by assumption) | ((repeat (first | with_reducible refine Held.set ?_ (by simp only [zA, zC, zD, zN]; omega) | with_reducible refine Held.alloc ?_ _ | with_reducible refine Held.drew ?_)); (first | with_reducible assumption | with_reducible exact Held.refl _ | with_reducible exact Held.of (by assumption) | with_reducible exact Held.ex (by assumption) (by assumption))) | exact Held.of (by exact ext_))) ((first | (go_at_call 42; apply Calls.mono; apply iMonSum_c; ((first | (apply Rs.at0; assumption) | (apply Ow.rs0; assumption)); exact kf_); rintro E w' ⟨rfl, rfl⟩) | (go_at_call 62; apply Calls.mono; apply iMktHeld_c; ((first | (apply RM.at0; assumption)); exact kf_); rintro E w1 ⟨rfl, hb⟩; have hst := xr hb; (try simp only [zA, zC, zD, zN] at hst); obtain ⟨hc, hf, hz⟩ := hst))); all_goals (have hb := And.right (by assumption : Held W0 _); have hst := xr hb; (try simp only [zA, zC, zD, zN] at hst); obtain ⟨hc, hf, hz⟩ := hst))
  go_wp2
  go_ret
  exact ⟨ret_i (IntWalk.i64_left _), ext_⟩
end Go.Proofs.Ytncoiknpkebgoaa

namespace Go.Proofs.Ytncoiknpkebgoaa
set_option maxRecDepth 100000
set_option linter.unusedSimpArgs false
set_option linter.unusedVariables false
open Go.RowKit Go
set_option maxHeartbeats 8000000

theorem sReqOk_c (r : Sw.Req) (w : World) : Calls Try.prog 148 #[.agg #[.int .i64 r.user, .int .i64 r.n, .int .i64 r.kind, .int .i64 r.ticket, .int .i64 r.who, .int .i64 r.price]] w fun E w' => E = .returned (.bool (Sw.reqOk r)) ∧ Ex w w' := by
  cases g1 : Sw.inR r.user 1 5
  case false => go_enter Try.func148, Try.ntmps148; go_wp2_with (first | (go_at_call 94; refine (l1In_c _ _ _ _).mono ?_; rintro E w' ⟨rfl, rfl⟩)); go_ret; exact ⟨ret_b (by simp [Sw.reqOk, g1]), ext_⟩
  cases g2 : Sw.inR r.n 1 99999
  case false => go_enter Try.func148, Try.ntmps148; go_wp2_with (first | (go_at_call 94; refine (l1In_c _ _ _ _).mono ?_; rintro E w' ⟨rfl, rfl⟩)); go_ret; exact ⟨ret_b (by simp [Sw.reqOk, g2]), ext_⟩
  cases g3 : Sw.inR r.kind 1 6
  case false => go_enter Try.func148, Try.ntmps148; go_wp2_with (first | (go_at_call 94; refine (l1In_c _ _ _ _).mono ?_; rintro E w' ⟨rfl, rfl⟩)); go_ret; exact ⟨ret_b (by simp [Sw.reqOk, g3]), ext_⟩
  cases g4 : Sw.inR r.ticket 0 7
  case false => go_enter Try.func148, Try.ntmps148; go_wp2_with (first | (go_at_call 94; refine (l1In_c _ _ _ _).mono ?_; rintro E w' ⟨rfl, rfl⟩)); go_ret; exact ⟨ret_b (by simp [Sw.reqOk, g4]), ext_⟩
  have e : Sw.reqOk r = (if r.kind = 1 then Sw.inR r.who 1 5 && Sw.inR r.price 1 50 else decide (r.who = 0) && (if r.kind = 2 then Sw.inR r.price 1 999 else decide (r.price = 0))) := by simp [Sw.reqOk, g1, g2, g3, g4]
  have He := Lib.hid e; clear e
  by_cases k1 : r.kind = 1
  · have k1' : (r.kind == 1) = true := by simp [k1]
    have K1 := Lib.hid k1; clear k1
    cases g5 : Sw.inR r.who 1 5
    all_goals
      go_enter Try.func148, Try.ntmps148
      go_wp2_with (first | (go_at_call 94; refine (l1In_c _ _ _ _).mono ?_; rintro E w' ⟨rfl, rfl⟩))
      go_ret
      exact ⟨ret_b (by rw [He.out, if_pos K1.out]; simp [g5]), ext_⟩
  have k1' : (r.kind == 1) = false := by simp [k1]
  cases g5 : (r.who == 0)
  case false =>
    go_enter Try.func148, Try.ntmps148
    go_wp2_with (first | (go_at_call 94; refine (l1In_c _ _ _ _).mono ?_; rintro E w' ⟨rfl, rfl⟩))
    go_ret
    exact ⟨ret_b (by rw [He.out, if_neg k1]; rw [← beqI, g5]; rfl), ext_⟩
  by_cases k2 : r.kind = 2
  · have k2' : (r.kind == 2) = true := by simp [k2]
    have k2'' : (r.kind != 2) = false := by simp [k2]
    have K2 := Lib.hid k2; clear k2
    cases g6 : Sw.inR r.price 1 999
    all_goals
      go_enter Try.func148, Try.ntmps148
      go_wp2_with (first | (go_at_call 94; refine (l1In_c _ _ _ _).mono ?_; rintro E w' ⟨rfl, rfl⟩))
      go_ret
      exact ⟨ret_b (by rw [He.out, if_neg k1, if_pos K2.out]; rw [← beqI, g5, g6]; rfl), ext_⟩
  have k2' : (r.kind == 2) = false := by simp [k2]
  have k2'' : (r.kind != 2) = true := by simp [k2]
  cases g6 : (r.price == 0)
  all_goals
    go_enter Try.func148, Try.ntmps148
    go_wp2_with (first | (go_at_call 94; refine (l1In_c _ _ _ _).mono ?_; rintro E w' ⟨rfl, rfl⟩))
    go_ret
    exact ⟨ret_b (by rw [He.out, if_neg k1, if_neg k2]; rw [← beqI, ← beqI, g5, g6]; rfl), ext_⟩

/-! ### a deal, as the reference asks -/
def buyerOk (clock : Int) (d : Sw.Deal) : Bool := if d.buyer = 0 then decide (d.due = 0) else Sw.inR d.buyer 1 5 && decide (d.buyer ≠ d.seller) && Sw.inR d.due clock (clock + 5)
theorem dealOk_b {clock : Int} {rows : List Sw.Row} {d : Sw.Deal} {r : Sw.Row} (ho : Sw.ownOk rows = true) (hr : Sw.rowAt rows d.ticket = r) :
    Sw.dealOk clock rows d = (Sw.inR d.ticket 0 7 && decide (r.who = d.seller) && decide (d.seller ≠ 0) && !r.used && Sw.inR d.price 1 (Sw.entCap r.face) && buyerOk clock d) := by
  have h1 := Sw.rowAt_ok ho d.ticket
  rw [hr, Sw.rowOk_iff] at h1
  unfold Sw.dealOk
  rw [hr]
  unfold buyerOk
  by_cases hs : r.who = d.seller
  · by_cases h0 : d.seller = 0
    · have : Sw.inR d.seller 1 5 = false := by rw [h0]; rfl
      have this0 : Sw.inR 0 1 5 = false := rfl
      simp [this0, h0]
    · have : Sw.inR d.seller 1 5 = true := Sw.inR_iff.2 (by omega)
      simp [this, h0]
  · simp [hs]
theorem dealsOk_cons {clock : Int} {rows : List Sw.Row} {p : Int} {d : Sw.Deal} {ds : List Sw.Deal} : Sw.dealsOk clock rows p (d :: ds) = (Sw.dealOk clock rows d && decide (p < d.ticket) && Sw.dealsOk clock rows d.ticket ds) := rfl
/-- Behind k deals: the last one's ticket. -/
def LastAt (xs : List Sw.Deal) (k : Nat) (p : Int) : Prop := k = 0 ∧ p = -1 ∨ ∃ j y, k = j + 1 ∧ xs[j]? = some y ∧ y.ticket = p ∧ 0 ≤ p
/-- What a market is asked first. -/
def mktGate (m : Sw.Mkt) : Bool := (Sw.ownFold m.log).isSome && Sw.monOk m.purses && decide (m.deals.length ≤ 8) && Sw.inR m.clock 0 99999 && decide (m.nums.length = 5) && decide (m.said.length = 5)
theorem mktOk_parts (m : Sw.Mkt) : Sw.mktOk m = (mktGate m && Sw.dealsOk m.clock (Sw.mktRows m) (-1) m.deals && Sw.numsOk m.nums m.said && decide (Sw.monSum m.purses + Sw.mktHeld m ≤ 100000)) := by
  simp [Sw.mktOk, mktGate]
theorem numsOk_at {ns ss : List Int} {k : Nat} {a b : Int} (ha : ns.drop k = a :: ns.drop (k + 1)) (hb : ss.drop k = b :: ss.drop (k + 1)) : Sw.numsOk (ns.drop k) (ss.drop k) = (Sw.numOk a b && Sw.numsOk (ns.drop (k + 1)) (ss.drop (k + 1))) := by rw [ha, hb]; rfl

end Go.Proofs.Ytncoiknpkebgoaa

namespace Go.Proofs.Ytncoiknpkebgoaa
set_option maxRecDepth 100000
set_option linter.unusedSimpArgs false
set_option linter.unusedVariables false
open Go.RowKit Go
set_option maxHeartbeats 1000000

/-- 'make([]T, n)' inside a region that draws its order. -/
theorem step_mk {P : Program} {w : World} {ops : Array Oper} {o : Oper} {a : Act} {Kx : Act → World → Prop} {Q : Exit → Act → World → Prop} {E : Prop} {α : Type} {enc : α → List Value} {sz bytes : Nat} {t e : TypeId} {l c : Operand} {lo n : Nat}
    (hel : ElemOk P t e sz bytes) (zx : α) (hzx : ∀ i z, P.info? e = some i → i.zero = some z → z.cells = (enc zx).toArray) (hsz : (enc zx).length = sz) (hgd : o.guard = none)
    (ho : o.op = .makeSlice t l c) (hl : a.eval l = .int .i64 n) (hc : a.eval c = .int .i64 n) (hb : bytes * n ≤ 281474976710656) (hn : n ≤ maxLen) (hlo : lo ≤ w.heap.size)
    (K : ∀ w', Ow enc sz e w' lo (some ⟨w.heap.size, 0, none⟩) n n (List.replicate n zx) → Ex w w' → w.heap.size + 1 ≤ w'.heap.size → Kx (a.put o.dst (.slice (some ⟨w.heap.size, 0, none⟩) n n)) w') :
    if Region.wanted o (yielded ops a.tmps) = true then o.wp P a w Kx Q else E := by
  rw [if_pos (by simp [Region.wanted, hgd])]
  obtain ⟨i, z, hi, hz, hsz', hby, hzs⟩ := hel.info
  obtain ⟨w', hrun, h1, h2⟩ := run_make_full (P := P) w lo t e i z sz hel.sl hi hz hsz' .i64 .i64 n (by rw [hby]; exact hb) hn hlo
  unfold Oper.wp
  simp [execOp, ho, hl, hc, hrun, Result.andThen]
  rw [hzx i z hi hz, madeCells_flat zx hsz hel.pos] at h1
  refine K w' ⟨(List.length_replicate ..).symm, h1⟩ ⟨h2.os, h2.tape, h2.output, h2.size, fun k hk _ => h2.block k hk (by simp)⟩ ?_
  rcases h1.2 with ⟨hv, h0⟩ | ⟨g, cap, cur, hv, hb, hh, _⟩
  · cases hv
  · injection hv with e1 e2 e3
    have e4 : w.heap.size = g := by injection e1 with e1; injection e1
    subst e4
    exact (Array.getElem?_eq_some_iff.1 hh).1
/-- How far one piece has come that is made at once. -/
inductive MakeSt {α : Type} (enc : α → List Value) (sz : Nat) (e : TypeId) (τ : Nat → Nat) (t : Nat) (w : World) (lo n : Nat) (xs : List α) : Bool → Value → Prop
  | none (v : Value) : MakeSt enc sz e τ t w lo n xs false v
  | done (A : Option Addr) (c : Nat) (h : OwT enc sz e τ t w lo A c n xs) : MakeSt enc sz e τ t w lo n xs true (.slice A n c)
section
variable {α : Type} {enc : α → List Value} {sz : Nat} {e : TypeId} {τ τ' : Nat → Nat} {t s : Nat} {w w' : World} {lo n c : Nat} {xs : List α} {l r : Bool} {v u : Value} {A A' : Option Addr}
theorem MakeSt.mv (h : MakeSt enc sz e τ t w lo n xs r u) (f : ∀ A c k ys, OwT enc sz e τ t w lo A c k ys → OwT enc sz e τ' t w' lo A c k ys) : MakeSt enc sz e τ' t w' lo n xs r u := by
  cases h with
  | none => exact .none _
  | done A c h => exact .done _ _ (f _ _ _ _ h)
theorem MakeSt.alloc {o : Obj} (h : MakeSt enc sz e τ t w lo n xs r u) : MakeSt enc sz e (glue τ w.heap.size (fun _ => s)) t (w.alloc o) lo n xs r u :=
  h.mv fun _ _ _ _ h => (h.glueL (Nat.le_refl _)).keep (KT.refl _ _ _ _).alloc
theorem MakeSt.app (h : MakeSt enc sz e τ t w lo n xs r u) (hb : Ch (atA A) w w') (ht : ∀ a, A = some a → τ a.block = s) (hne : t ≠ s) : MakeSt enc sz e (glue τ w.heap.size (fun _ => s)) t w' lo n xs r u :=
  h.mv fun _ _ _ _ h => (h.glueL (Nat.le_refl _)).keep (KT.ch hb (KT.refl _ _ _ _) fun i ⟨a, ha, hi⟩ => .inr (by rw [hi, glue_tag (ht a ha)]; exact Ne.symm hne))
/-- Something new elsewhere. -/
theorem MakeSt.ex (h : MakeSt enc sz e τ t w lo n xs r u) (hb : Ex w w') : MakeSt enc sz e (glue τ w.heap.size (fun _ => s)) t w' lo n xs r u :=
  h.mv fun _ _ _ _ h => (h.glueL (Nat.le_refl _)).keep (KT.ex hb (KT.refl _ _ _ _))
theorem CopySt.ex (h : CopySt enc sz e τ t w lo n xs l r v u) (hb : Ex w w') : CopySt enc sz e (glue τ w.heap.size (fun _ => s)) t w' lo n xs l r v u :=
  h.mv fun _ _ _ _ h => (h.glueL (Nat.le_refl _)).keep (KT.ex hb (KT.refl _ _ _ _))
/-- What is new is marked. -/
theorem OwT.newT {ys : List α} {m lo' : Nat} (h : Ow enc sz e w' lo' A c m ys) (hl : w.heap.size ≤ lo') (hlo : lo ≤ lo') : OwT enc sz e (glue τ w.heap.size (fun _ => t)) t w' lo A c m ys :=
  ⟨h.less hlo, fun a ha => by unfold glue; rw [if_neg (by have := (h.blk ha).1; omega)]⟩
end
end Go.Proofs.Ytncoiknpkebgoaa

namespace Go.Proofs.Ytncoiknpkebgoaa
set_option maxRecDepth 100000
set_option linter.unusedSimpArgs false
set_option linter.unusedVariables false
open Go.RowKit Go
set_option maxHeartbeats 2000000

/-- A cell that has been written, whatever it held. -/
@[go_sem] theorem setCell_same_ (W : World) (b i : Nat) (u : Value) : (W.setCell ⟨b, i, none⟩ u).cell? ⟨b, i, none⟩ = (W.cell? ⟨b, i, none⟩).map (fun _ => u) := by
  cases h : W.cell? ⟨b, i, none⟩ with
  | some v => rw [World.cell?_setCell_same _ _ _ h]; rfl
  | none =>
    simp only [World.cell?, World.setCell, Array.getElem?_modify, if_true] at h ⊢
    cases hh : W.heap[b]? with
    | none => simp
    | some o =>
      rw [hh] at h
      cases o with
      | cells c T fz => simp at h ⊢; omega
      | _ => simp
/-- What a function leaves that has a market of its own, and hands one back with a number. -/
def MktPost (lo : Nat) (τ : Nat → Nat) (w w' : World) (E : Ending) (x : Sw.Mkt × Int) : Prop :=
  ∃ (bL : Option Addr) (bLc bLn : Nat) (bP : Option Addr) (bPc bPn : Nat) (bD : Option Addr) (bDc bDn : Nat) (bN : Option Addr) (bNc bNn : Nat) (bS : Option Addr) (bSc bSn : Nat) (τ' : Nat → Nat), E = .returned (.tuple #[.agg #[.slice bL bLn bLc, .slice bP bPn bPc, .slice bD bDn bDc, .int .i64 x.1.clock, .slice bN bNn bNc, .slice bS bSn bSc], .int .i64 x.2]) ∧ OwM τ' w' lo bL bLc bLn bP bPc bPn bD bDc bDn bN bNc bNn bS bSc bSn x.1 ∧ (∀ b, b < w.heap.size → τ' b = τ b) ∧ Ch (SM lo τ) w w'
section
variable {τ : Nat → Nat} {w w' : World} {lo g k : Nat}
theorem Ch.atA_keep {A : Option Addr} (h : Ch (atA A) w w') (hg : g < w.heap.size) (hA : ∀ a, A = some a → a.block ≠ g) : (∀ o, w'.cell? ⟨g, o, none⟩ = w.cell? ⟨g, o, none⟩) ∧ (∀ o, w'.frozen? ⟨g, o, none⟩ = w.frozen? ⟨g, o, none⟩) :=
  ⟨fun o => h.cell (p := ⟨g, o, none⟩) hg (fun ⟨a, ha, e⟩ => hA a ha e.symm), fun o => h.frozen (p := ⟨g, o, none⟩) hg (fun ⟨a, ha, e⟩ => hA a ha e.symm)⟩
theorem Ch.sm_keep (h : Ch (SM lo τ) w w') (hg : g < w.heap.size) (h0 : τ g = 0) : (∀ o, w'.cell? ⟨g, o, none⟩ = w.cell? ⟨g, o, none⟩) ∧ (∀ o, w'.frozen? ⟨g, o, none⟩ = w.frozen? ⟨g, o, none⟩) :=
  ⟨fun o => h.cell (p := ⟨g, o, none⟩) hg (fun ⟨_, h1, _⟩ => by have h1 : 1 ≤ τ g := h1; omega), fun o => h.frozen (p := ⟨g, o, none⟩) hg (fun ⟨_, h1, _⟩ => by have h1 : 1 ≤ τ g := h1; omega)⟩
theorem OwM.old {aL : Option Addr} {aLc aLn : Nat} {aP : Option Addr} {aPc aPn : Nat} {aD : Option Addr} {aDc aDn : Nat} {aN : Option Addr} {aNc aNn : Nat} {aS : Option Addr} {aSc aSn : Nat} {m : Sw.Mkt} {w0 : World} (h : OwM τ w0 lo aL aLc aLn aP aPc aPn aD aDc aDn aN aNc aNn aS aSc aSn m) (hg : w0.heap.size ≤ g) :
    (∀ a, aL = some a → a.block ≠ g) ∧ (∀ a, aP = some a → a.block ≠ g) ∧ (∀ a, aD = some a → a.block ≠ g) ∧ (∀ a, aN = some a → a.block ≠ g) ∧ (∀ a, aS = some a → a.block ≠ g) :=
  ⟨fun a ha => by have := (h.log.ow.blk ha).2; omega, fun a ha => by have := (h.purses.ow.blk ha).2; omega, fun a ha => by have := (h.deals.ow.blk ha).2; omega, fun a ha => by have := (h.nums.ow.blk ha).2; omega, fun a ha => by have := (h.said.ow.blk ha).2; omega⟩
theorem OwM.atL {aL : Option Addr} {aLc aLn : Nat} {aP : Option Addr} {aPc aPn : Nat} {aD : Option Addr} {aDc aDn : Nat} {aN : Option Addr} {aNc aNn : Nat} {aS : Option Addr} {aSc aSn : Nat} {m : Sw.Mkt} (h : OwM τ w lo aL aLc aLn aP aPc aPn aD aDc aDn aN aNc aNn aS aSc aSn m) {i : Nat} (hi : atA aL i) : SM lo τ i := by
  obtain ⟨a, ha, rfl⟩ := hi
  exact ⟨(h.log.ow.blk ha).1, by rw [h.log.tag a ha]; decide, by rw [h.log.tag a ha]; decide⟩
/-- An entry more. -/
theorem OwM.logged {aL : Option Addr} {aLc aLn : Nat} {aP : Option Addr} {aPc aPn : Nat} {aD : Option Addr} {aDc aDn : Nat} {aN : Option Addr} {aNc aNn : Nat} {aS : Option Addr} {aSc aSn : Nat} {m : Sw.Mkt} (h : OwM τ w lo aL aLc aLn aP aPc aPn aD aDc aDn aN aNc aNn aS aSc aSn m) {A : Option Addr} {c n : Nat} {es : List Sw.Ent} (ho : OwE w' lo A c n es) (hc : Ch (atA aL) w w') (hat : ∀ b, A = some b → aL = some b ∨ w.heap.size ≤ b.block) :
    OwM (glue τ w.heap.size (fun _ => 1)) w' lo A c n aP aPc aPn aD aDc aDn aN aNc aNn aS aSc aSn { m with log := es } := by
  have K : ∀ t, t ≠ 1 → KT (glue τ w.heap.size (fun _ => 1)) t lo w w' := fun t ht => KT.ch hc (KT.refl _ _ _ _) fun i ⟨a, ha, hi⟩ => .inr (by rw [hi, glue_tag (h.log.tag a ha)]; exact Ne.symm ht)
  exact ⟨OwT.full ho h.log hat, (h.purses.glueL (Nat.le_refl _)).keep (K 2 (by decide)), (h.deals.glueL (Nat.le_refl _)).keep (K 3 (by decide)), (h.nums.glueL (Nat.le_refl _)).keep (K 4 (by decide)), (h.said.glueL (Nat.le_refl _)).keep (K 5 (by decide))⟩
/-- Other purses, made since w. -/
theorem OwM.pursed {aL : Option Addr} {aLc aLn : Nat} {aP : Option Addr} {aPc aPn : Nat} {aD : Option Addr} {aDc aDn : Nat} {aN : Option Addr} {aNc aNn : Nat} {aS : Option Addr} {aSc aSn : Nat} {m : Sw.Mkt} (h : OwM τ w lo aL aLc aLn aP aPc aPn aD aDc aDn aN aNc aNn aS aSc aSn m) {A : Option Addr} {c n l : Nat} {ps : List Int} (ho : OwI w' l A c n ps) (hl : w.heap.size ≤ l) (hlo : lo ≤ l) (hk : KF lo w w') :
    OwM (glue τ w.heap.size (fun _ => 2)) w' lo aL aLc aLn A c n aD aDc aDn aN aNc aNn aS aSc aSn { m with purses := ps } :=
  ⟨(h.log.glueL (Nat.le_refl _)).keepF hk, OwT.newT ho hl hlo, (h.deals.glueL (Nat.le_refl _)).keepF hk, (h.nums.glueL (Nat.le_refl _)).keepF hk, (h.said.glueL (Nat.le_refl _)).keepF hk⟩
/-- Other deals, made since w. -/
theorem OwM.dealt {aL : Option Addr} {aLc aLn : Nat} {aP : Option Addr} {aPc aPn : Nat} {aD : Option Addr} {aDc aDn : Nat} {aN : Option Addr} {aNc aNn : Nat} {aS : Option Addr} {aSc aSn : Nat} {m : Sw.Mkt} (h : OwM τ w lo aL aLc aLn aP aPc aPn aD aDc aDn aN aNc aNn aS aSc aSn m) {A : Option Addr} {c n l : Nat} {ds : List Sw.Deal} (ho : OwD w' l A c n ds) (hl : w.heap.size ≤ l) (hlo : lo ≤ l) (hk : KF lo w w') :
    OwM (glue τ w.heap.size (fun _ => 3)) w' lo aL aLc aLn aP aPc aPn A c n aN aNc aNn aS aSc aSn { m with deals := ds } :=
  ⟨(h.log.glueL (Nat.le_refl _)).keepF hk, (h.purses.glueL (Nat.le_refl _)).keepF hk, OwT.newT ho hl hlo, (h.nums.glueL (Nat.le_refl _)).keepF hk, (h.said.glueL (Nat.le_refl _)).keepF hk⟩
end
theorem Ow.apart {α : Type} {enc : α → List Value} {sz : Nat} {e : TypeId} {w : World} {lo c n g : Nat} {A : Option Addr} {xs : List α} (h : Ow enc sz e w lo A c n xs) (hg : w.heap.size ≤ g) : ∀ a, A = some a → a.block ≠ g :=
  fun a ha => by have := (h.blk ha).2; omega
/-- The function's own boxes. -/
def BX (g0 g1 : Nat) : Nat → Prop := fun b => g0 ≤ b ∧ b < g1
theorem BX.mk {g0 g1 b : Nat} (h : g0 ≤ b) (k : b < g1) : BX g0 g1 b := ⟨h, k⟩
theorem bx_ {p : Prop} (h : p := by with_reducible repeat (first | exact cR _ _ | apply cA | apply cD | apply cN | (refine cS ?_ (Or.inl (BX.mk sz_ sz_)) _) | (refine cS ?_ (Or.inr sz_) _) | (apply cE; assumption))) : p := h
theorem OwM.box {τ : Nat → Nat} {w w' : World} {lo g0 g1 : Nat} {aL : Option Addr} {aLc aLn : Nat} {aP : Option Addr} {aPc aPn : Nat} {aD : Option Addr} {aDc aDn : Nat} {aN : Option Addr} {aNc aNn : Nat} {aS : Option Addr} {aSc aSn : Nat} {m : Sw.Mkt} (h : OwM τ w lo aL aLc aLn aP aPc aPn aD aDc aDn aN aNc aNn aS aSc aSn m) (hx : Ch (BX g0 g1) w w') (h0 : ∀ b, g0 ≤ b → b < g1 → τ b = 0) : OwM τ w' lo aL aLc aLn aP aPc aPn aD aDc aDn aN aNc aNn aS aSc aSn m :=
  h.keep fun t h1 _ => KT.ch hx (KT.refl _ _ _ _) fun i hi => .inr (by rw [h0 i hi.1 hi.2]; omega)
theorem tag0 {τ : Nat → Nat} {k g1 : Nat} : ∀ b, k ≤ b → b < g1 → glue τ k (fun _ => 0) b = 0 := fun b h _ => if_neg (by omega)
theorem tag1 {τ τ' : Nat → Nat} {g0 g1 k : Nat} (h : ∀ b, g0 ≤ b → b < g1 → τ b = 0) (hk : g1 ≤ k) : ∀ b, g0 ≤ b → b < g1 → glue τ k τ' b = 0 := fun b h1 h2 => (if_pos (by omega)).trans (h b h1 h2)
theorem rows8 {m : Sw.Mkt} {rows : List Sw.Row} (h : Sw.MOk m rows) : Sw.mktRows m = rows ∧ rows.length = 8 := ⟨Sw.mktRows_of h.fold, Sw.ownOk_len (Sw.ownFold_ok h.fold)⟩

theorem sIssue_c (aL : Option Addr) (aLc aLn : Nat) (aP : Option Addr) (aPc aPn : Nat) (aD : Option Addr) (aDc aDn : Nat) (aN : Option Addr) (aNc aNn : Nat) (aS : Option Addr) (aSc aSn : Nat) (m : Sw.Mkt) (r : Sw.Req) (rows : List Sw.Row) (lo : Nat) (τ : Nat → Nat) (w : World) (hM : OwM τ w lo aL aLc aLn aP aPc aPn aD aDc aDn aN aNc aNn aS aSc aSn m) (hok : Sw.MOk m rows) (hr : Sw.reqOk r = true) (hk : r.kind = 1) (hlo : lo ≤ w.heap.size) : Calls Try.prog 254 #[.agg #[.slice aL aLn aLc, .slice aP aPn aPc, .slice aD aDn aDc, .int .i64 m.clock, .slice aN aNn aNc, .slice aS aSn aSc], .agg #[.int .i64 r.user, .int .i64 r.n, .int .i64 r.kind, .int .i64 r.ticket, .int .i64 r.who, .int .i64 r.price]] w fun E w' => MktPost lo τ w w' E (Sw.issue m r (Sw.rowAt rows r.ticket)) := by
  have hr' := Sw.reqOk_iff.1 hr
  obtain ⟨hrow, h8⟩ := rows8 hok
  have hL40 : m.log.length ≤ 40 := (Sw.ownFold_some.1 hok.fold).1
  have hML := hM.log
  have hMP := hM.purses
  have hMD := hM.deals
  have l1 := hM.log.ow.1
  have l2 := Lib.hid hM.purses.ow.1
  have hp5 : aPn ≤ 4194304 := by have := l2.out; have := (Sw.monOk_iff.1 hok.mon).1; omega
  have hfits : Sw.ownFits rows ⟨1, r.ticket, r.who, r.price⟩ = decide ((Sw.rowAt rows r.ticket).who = 0) := by
    have he : Sw.entOk ⟨1, r.ticket, r.who, r.price⟩ = true := Sw.entOk_iff.2 ⟨hr'.2.2.2.1, by dsimp only; omega, by dsimp only; omega⟩
    simp [Sw.ownFits, Sw.ownFold_ok hok.fold, he, Sw.fitsRow]
  by_cases h1 : r.user ≠ 1 ∨ r.who = 1
  · have e : Sw.issue m r (Sw.rowAt rows r.ticket) = (m, 2) := by unfold Sw.issue; rw [if_pos h1]
    rw [e]
    clear e hfits hrow hr' hr hk l1
    rcases h1 with h1 | h1
    · have g1 : (r.user != 1) = true := by simpa using h1
      clear h1
      go_enter Try.func254, Try.ntmps254
      go_wp2_with fail
      refine bodyPost_ret (v := .tuple #[.agg #[.slice aL aLn aLc, .slice aP aPn aPc, .slice aD aDn aDc, .int .i64 m.clock, .slice aN aNn aNc, .slice aS aSn aSc], .int .i64 2]) (by simp [results, Try.results254, go_sem, *]) rfl ?_
      exact ⟨_, _, _, _, _, _, _, _, _, _, _, _, _, _, _, τ, rfl, hM.keepF (by (exact kf_)), fun _ _ => rfl, by (exact ext_)⟩
    · have g1 : (r.who == 1) = true := by simpa using h1
      clear h1
      cases g2 : (r.user != 1)
      all_goals
        go_enter Try.func254, Try.ntmps254
        go_wp2_with fail
        refine bodyPost_ret (v := .tuple #[.agg #[.slice aL aLn aLc, .slice aP aPn aPc, .slice aD aDn aDc, .int .i64 m.clock, .slice aN aNn aNc, .slice aS aSn aSc], .int .i64 2]) (by simp [results, Try.results254, go_sem, *]) rfl ?_
        exact ⟨_, _, _, _, _, _, _, _, _, _, _, _, _, _, _, τ, rfl, hM.keepF (by (exact kf_)), fun _ _ => rfl, by (exact ext_)⟩
  have h1a : (r.user != 1) = false := by simpa using fun h => h1 (.inl h)
  have h1b : (r.who == 1) = false := by simpa using fun h => h1 (.inr h)
  have HR := Lib.hid hrow
  have HF := Lib.hid hfits
  have HL := Lib.hid l1
  cases h2 : decide ((Sw.rowAt rows r.ticket).who = 0)
  case false =>
    have h2' := of_decide_eq_false h2
    have e : Sw.issue m r (Sw.rowAt rows r.ticket) = (m, 3) := by unfold Sw.issue; rw [if_neg h1, if_pos h2']
    rw [e]
    clear e hfits hrow hr' hr hk l1 h1 h2'
    rw [h2] at HF; clear h2
    go_enter Try.func254, Try.ntmps254
    go_wp2_with fail
    (refine wp_name ?_; intro W0 hb0; have hst := xr hb0; (try simp only [zA, zC, zD, zN] at hst); obtain ⟨hc0, hf0, hz0⟩ := hst; go_region_held3 (fun w' => Held W0 w') ((first | with_reducible assumption | with_reducible exact Held.start _ | with_reducible exact Held.of (by assumption) | with_reducible exact Held.ex (by assumption) (by assumption) | ((repeat (first | with_reducible refine Held.set ?_ (by simp only [zA, zC, zD, zN]; omega) | with_reducible refine Held.alloc ?_ _ | with_reducible refine Held.drew ?_)); (first | with_reducible assumption | with_reducible exact Held.refl _ | with_reducible exact Held.of (by assumption) | with_reducible exact Held.ex (by assumption) (by assumption))) | exact Held.of (by exact ext_))) ((first | (go_at_call 247; apply Calls.mono; apply sRows_c; ((first | (apply Rs.at0; assumption) | (apply Ow.rs0; assumption) | (apply OwT.rs0; assumption)); exact kf_); rintro E w1 ⟨A', c', n', rfl, hoR, hb⟩; have hst := xr hb; (try simp only [zA, zC, zD, zN] at hst); obtain ⟨hc, hf, hz⟩ := hst) | (go_at_call 204; apply Calls.mono; apply (sOwnFits_c (e := ⟨1, r.ticket, r.who, r.price⟩)); (apply Ow.rs0 hoR; (exact kf_)); rintro E w2 ⟨rfl, hb⟩; rw [HR.out, HF.out]; have hst := xr hb; (try simp only [zA, zC, zD, zN] at hst); obtain ⟨hc, hf, hz⟩ := hst))); all_goals (have hb := And.right (by assumption : Held W0 _); have hst := xr hb; (try simp only [zA, zC, zD, zN] at hst); obtain ⟨hc, hf, hz⟩ := hst))
    all_goals go_wp2
    refine bodyPost_ret (v := .tuple #[.agg #[.slice aL aLn aLc, .slice aP aPn aPc, .slice aD aDn aDc, .int .i64 m.clock, .slice aN aNn aNc, .slice aS aSn aSc], .int .i64 3]) (by simp [results, Try.results254, go_sem, *]) rfl ?_
    exact ⟨_, _, _, _, _, _, _, _, _, _, _, _, _, _, _, τ, rfl, hM.keepF (by (exact kf_)), fun _ _ => rfl, by (exact ext_)⟩
  have h2' := of_decide_eq_true h2
  rw [h2] at HF; clear h2
  by_cases h3 : m.log.length = 40
  · have e : Sw.issue m r (Sw.rowAt rows r.ticket) = (m, 6) := by unfold Sw.issue; rw [if_neg h1, if_neg (by simpa using h2'), if_pos h3]
    rw [e]
    have g3 : ((aLn : Int) == 40) = true := by simp; omega
    clear e hfits hrow hr' hr hk l1 h1 h2' h3
    go_enter Try.func254, Try.ntmps254
    go_wp2_with fail
    (refine wp_name ?_; intro W0 hb0; have hst := xr hb0; (try simp only [zA, zC, zD, zN] at hst); obtain ⟨hc0, hf0, hz0⟩ := hst; go_region_held3 (fun w' => Held W0 w') ((first | with_reducible assumption | with_reducible exact Held.start _ | with_reducible exact Held.of (by assumption) | with_reducible exact Held.ex (by assumption) (by assumption) | ((repeat (first | with_reducible refine Held.set ?_ (by simp only [zA, zC, zD, zN]; omega) | with_reducible refine Held.alloc ?_ _ | with_reducible refine Held.drew ?_)); (first | with_reducible assumption | with_reducible exact Held.refl _ | with_reducible exact Held.of (by assumption) | with_reducible exact Held.ex (by assumption) (by assumption))) | exact Held.of (by exact ext_))) ((first | (go_at_call 247; apply Calls.mono; apply sRows_c; ((first | (apply Rs.at0; assumption) | (apply Ow.rs0; assumption) | (apply OwT.rs0; assumption)); exact kf_); rintro E w1 ⟨A', c', n', rfl, hoR, hb⟩; have hst := xr hb; (try simp only [zA, zC, zD, zN] at hst); obtain ⟨hc, hf, hz⟩ := hst) | (go_at_call 204; apply Calls.mono; apply (sOwnFits_c (e := ⟨1, r.ticket, r.who, r.price⟩)); (apply Ow.rs0 hoR; (exact kf_)); rintro E w2 ⟨rfl, hb⟩; rw [HR.out, HF.out]; have hst := xr hb; (try simp only [zA, zC, zD, zN] at hst); obtain ⟨hc, hf, hz⟩ := hst))); all_goals (have hb := And.right (by assumption : Held W0 _); have hst := xr hb; (try simp only [zA, zC, zD, zN] at hst); obtain ⟨hc, hf, hz⟩ := hst))
    all_goals go_wp2
    refine bodyPost_ret (v := .tuple #[.agg #[.slice aL aLn aLc, .slice aP aPn aPc, .slice aD aDn aDc, .int .i64 m.clock, .slice aN aNn aNc, .slice aS aSn aSc], .int .i64 6]) (by simp [results, Try.results254, go_sem, *]) rfl ?_
    exact ⟨_, _, _, _, _, _, _, _, _, _, _, _, _, _, _, τ, rfl, hM.keepF (by (exact kf_)), fun _ _ => rfl, by (exact ext_)⟩
  have g3 : ((aLn : Int) == 40) = false := by simp; omega
  cases h4 : Sw.moveMay m.purses r.who 1 r.price
  case false =>
    have e : Sw.issue m r (Sw.rowAt rows r.ticket) = (m, 5) := by unfold Sw.issue; rw [if_neg h1, if_neg (by simpa using h2'), if_neg h3, if_neg (by simp [h4])]
    rw [e]
    clear e hfits hrow hr' hr hk l1 h1 h2' h3
    go_enter Try.func254, Try.ntmps254
    go_wp2_with fail
    (refine wp_name ?_; intro W0 hb0; have hst := xr hb0; (try simp only [zA, zC, zD, zN] at hst); obtain ⟨hc0, hf0, hz0⟩ := hst; go_region_held3 (fun w' => Held W0 w') ((first | with_reducible assumption | with_reducible exact Held.start _ | with_reducible exact Held.of (by assumption) | with_reducible exact Held.ex (by assumption) (by assumption) | ((repeat (first | with_reducible refine Held.set ?_ (by simp only [zA, zC, zD, zN]; omega) | with_reducible refine Held.alloc ?_ _ | with_reducible refine Held.drew ?_)); (first | with_reducible assumption | with_reducible exact Held.refl _ | with_reducible exact Held.of (by assumption) | with_reducible exact Held.ex (by assumption) (by assumption))) | exact Held.of (by exact ext_))) ((first | (go_at_call 247; apply Calls.mono; apply sRows_c; ((first | (apply Rs.at0; assumption) | (apply Ow.rs0; assumption) | (apply OwT.rs0; assumption)); exact kf_); rintro E w1 ⟨A', c', n', rfl, hoR, hb⟩; have hst := xr hb; (try simp only [zA, zC, zD, zN] at hst); obtain ⟨hc, hf, hz⟩ := hst) | (go_at_call 204; apply Calls.mono; apply (sOwnFits_c (e := ⟨1, r.ticket, r.who, r.price⟩)); (apply Ow.rs0 hoR; (exact kf_)); rintro E w2 ⟨rfl, hb⟩; rw [HR.out, HF.out]; have hst := xr hb; (try simp only [zA, zC, zD, zN] at hst); obtain ⟨hc, hf, hz⟩ := hst))); all_goals (have hb := And.right (by assumption : Held W0 _); have hst := xr hb; (try simp only [zA, zC, zD, zN] at hst); obtain ⟨hc, hf, hz⟩ := hst))
    all_goals go_wp2_with (go_at_call 259; apply Calls.mono; apply sMonMove_c; ((first | (apply Rs.at0; assumption) | (apply Ow.rs0; assumption) | (apply OwT.rs0; assumption)); exact kf_); (first | assumption | omega); rintro E w1 ⟨A', c', rfl, hoP, hb⟩; have hst := xr hb; (try simp only [zA, zC, zD, zN] at hst); obtain ⟨hc, hf, hz⟩ := hst)
    refine bodyPost_ret (v := .tuple #[.agg #[.slice aL aLn aLc, .slice aP aPn aPc, .slice aD aDn aDc, .int .i64 m.clock, .slice aN aNn aNc, .slice aS aSn aSc], .int .i64 5]) (by simp [results, Try.results254, go_sem, *]) rfl ?_
    exact ⟨_, _, _, _, _, _, _, _, _, _, _, _, _, _, _, τ, rfl, hM.keepF (by (exact kf_)), fun _ _ => rfl, by (exact ext_)⟩
  have e : Sw.issue m r (Sw.rowAt rows r.ticket) = ({ m with purses := Sw.turned (Sw.turned m.purses r.who (-r.price)) 1 r.price, log := m.log ++ [⟨1, r.ticket, r.who, r.price⟩] }, 1) := by
    unfold Sw.issue; rw [if_neg h1, if_neg (by simpa using h2'), if_neg h3, if_pos h4]
  rw [e]
  have hpe : Sw.monMove m.purses r.who 1 r.price = Sw.turned (Sw.turned m.purses r.who (-r.price)) 1 r.price := by unfold Sw.monMove; rw [if_pos h4]
  have HP := Lib.hid hpe
  have hl40 : aLn ≤ 40 := by omega
  clear e hfits hrow hr' hr hk l1 h1 h2' h3 hpe
  go_enter Try.func254, Try.ntmps254
  go_wp2_with fail
  (refine wp_name ?_; intro W0 hb0; have hst := xr hb0; (try simp only [zA, zC, zD, zN] at hst); obtain ⟨hc0, hf0, hz0⟩ := hst; go_region_held3 (fun w' => Held W0 w') ((first | with_reducible assumption | with_reducible exact Held.start _ | with_reducible exact Held.of (by assumption) | with_reducible exact Held.ex (by assumption) (by assumption) | ((repeat (first | with_reducible refine Held.set ?_ (by simp only [zA, zC, zD, zN]; omega) | with_reducible refine Held.alloc ?_ _ | with_reducible refine Held.drew ?_)); (first | with_reducible assumption | with_reducible exact Held.refl _ | with_reducible exact Held.of (by assumption) | with_reducible exact Held.ex (by assumption) (by assumption))) | exact Held.of (by exact ext_))) ((first | (go_at_call 247; apply Calls.mono; apply sRows_c; ((first | (apply Rs.at0; assumption) | (apply Ow.rs0; assumption) | (apply OwT.rs0; assumption)); exact kf_); rintro E w1 ⟨A', c', n', rfl, hoR, hb⟩; have hst := xr hb; (try simp only [zA, zC, zD, zN] at hst); obtain ⟨hc, hf, hz⟩ := hst) | (go_at_call 204; apply Calls.mono; apply (sOwnFits_c (e := ⟨1, r.ticket, r.who, r.price⟩)); (apply Ow.rs0 hoR; (exact kf_)); rintro E w2 ⟨rfl, hb⟩; rw [HR.out, HF.out]; have hst := xr hb; (try simp only [zA, zC, zD, zN] at hst); obtain ⟨hc, hf, hz⟩ := hst))); all_goals (have hb := And.right (by assumption : Held W0 _); have hst := xr hb; (try simp only [zA, zC, zD, zN] at hst); obtain ⟨hc, hf, hz⟩ := hst))
  all_goals go_wp2_with (first | (go_at_call 259; apply Calls.mono; apply sMonMove_c; ((first | (apply Rs.at0; assumption) | (apply Ow.rs0; assumption) | (apply OwT.rs0; assumption)); exact kf_); (first | assumption | omega); rintro E w1 ⟨A', c', rfl, hoP, hb⟩; have hst := xr hb; (try simp only [zA, zC, zD, zN] at hst); obtain ⟨hc, hf, hz⟩ := hst) | (at_builtin; apply wpList_app (lo := lo) el_E one_E rfl rfl rfl rfl; (exact Ow.keep (hML.ow) kf_); (refine Rs.new [⟨1, r.ticket, r.who, r.price⟩] (by (first | rfl | (simp only [zA, zC, zD, zN]; done) | omega)) rfl rfl (fun _ => rfl) (by omega)); omega; (exact sz_); intro A1 c1 w2 ho1 hch1 hat1 hex1 hlow1; clear hex1; obtain ⟨hB0, hF0⟩ := Ch.atA_keep hch1 (g := w.heap.size) (by exact sz_) (Ow.apart (hML.ow) (by omega)); obtain ⟨hB1, hF1⟩ := Ch.atA_keep hch1 (g := w.heap.size + 1) (by exact sz_) (Ow.apart (hML.ow) (by omega)); obtain ⟨hB2, hF2⟩ := Ch.atA_keep hch1 (g := w.heap.size + 1 + 1) (by exact sz_) (Ow.apart (hML.ow) (by omega)); have hzA := hch1.size; (try simp only [zA, zC, zD, zN] at hzA)))
  refine bodyPost_ret (v := .tuple #[.agg #[.slice A1 (aLn + 1) c1, .slice A' aPn c', .slice aD aDn aDc, .int .i64 m.clock, .slice aN aNn aNc, .slice aS aSn aSc], .int .i64 1]) (by simp [results, Try.results254, go_sem, *]) rfl ?_
  rw [HP.out] at hoP
  have m1 := OwM.pursed ((hM.glueL (τ' := fun _ => 0) (Nat.le_refl _)).keepF kf_) hoP (Nat.le_refl _) sz_ (kE hb (kR _ _))
  have m2 := OwM.logged (m1.box (g0 := w.heap.size) (g1 := w.heap.size + 4) bx_ (tag1 tag0 sz_)) ho1 hch1 hat1
  have hS := Ch.trans' (show Ch (SM lo τ) w _ from ext_) hch1 (fun i _ h => hM.atL h)
  exact ⟨_, _, _, _, _, _, _, _, _, _, _, _, _, _, _, _, rfl, m2.box (g0 := w.heap.size) (g1 := w.heap.size + 4) bx_ (tag1 (tag1 tag0 sz_) sz_), fun b hb => (if_pos sz_).trans ((if_pos sz_).trans (if_pos hb)), ext_⟩
end Go.Proofs.Ytncoiknpkebgoaa

namespace Go.Proofs.Ytncoiknpkebgoaa
set_option maxRecDepth 100000
set_option linter.unusedSimpArgs false
set_option linter.unusedVariables false
open Go.RowKit Go
set_option maxHeartbeats 2000000

theorem gatOk_done {h : Sw.Head} {xs : List Int} (k : Sw.gatOk ⟨h, xs⟩ = true) : xs.Pairwise (· < ·) := by
  simp only [Sw.gatOk, Bool.and_eq_true] at k
  exact ((Sw.rises_iff xs (-1)).1 k.2).2
theorem sGatShow_c (t : Sw.Head) (A : Option Addr) (c n : Nat) (xs : List Int) (k who : Int) (r : Sw.Row) (B : Option Addr) (d m : Nat) (ps : List Int) (w : World) (hxs : RI w 0 A c n xs) (hps : RI w 0 B d m ps) : Calls Try.prog 51 #[.agg #[.int .i64 t.size, .int .i64 t.log, .int .i64 t.own, .slice A n c], .int .i64 k, .int .i64 who, .agg #[.int .i64 r.who, .int .i64 r.face, .bool r.used], .slice B m d] w fun E w' => ∃ A' c' n', E = .returned (.tuple #[.agg #[.int .i64 (Sw.gatShow ⟨t, xs⟩ k who r ps).1.head.size, .int .i64 (Sw.gatShow ⟨t, xs⟩ k who r ps).1.head.log, .int .i64 (Sw.gatShow ⟨t, xs⟩ k who r ps).1.head.own, .slice A' n' c'], .bool (Sw.gatShow ⟨t, xs⟩ k who r ps).2]) ∧ OwI w' w.heap.size A' c' n' (Sw.gatShow ⟨t, xs⟩ k who r ps).1.done ∧ Ex w w' := by
  obtain ⟨rh, rf, ru⟩ := r
  have hl := Lib.hid hxs.1
  cases g1 : Sw.gatOk ⟨t, xs⟩
  case false =>
    have e : Sw.gatShow ⟨t, xs⟩ k who ⟨rh, rf, ru⟩ ps = (Sw.gateZ, false) := by simp [Sw.gatShow, g1]
    have He := Lib.hid e; clear e
    go_enter Try.func51, Try.ntmps51
    go_wp2_with (first | (go_at_call 23; apply Calls.mono; apply sGatOk_c; ((first | (apply Rs.at0; assumption) | (apply Ow.rs0; assumption) | (apply OwT.rs0; assumption)); exact kf_); rintro E w1 ⟨rfl, hb⟩; have hst := xr hb; (try simp only [zA, zC, zD, zN] at hst); obtain ⟨hc, hf, hz⟩ := hst))
    refine bodyPost_ret (v := .tuple #[.agg #[.int .i64 0, .int .i64 0, .int .i64 0, .slice none 0 0], .bool false]) (by simp [results, Try.results51, go_sem, *]) rfl ?_
    exact ⟨none, 0, 0, by rw [He.out]; rfl, by rw [He.out]; exact Ow.nil _ _, ext_⟩
  have h8 : n ≤ 8 := by have := gatOk_len g1; have := hl.out; simp at *; omega
  cases g2 : Sw.inR who 1 5
  case false =>
    have e : Sw.gatShow ⟨t, xs⟩ k who ⟨rh, rf, ru⟩ ps = (⟨t, xs⟩, false) := by unfold Sw.gatShow; rw [if_pos g1, if_neg (by simp [Sw.gatMay, g2])]
    have He := Lib.hid e; clear e
    go_enter Try.func51, Try.ntmps51
    go_wp2_with (first | (go_at_call 23; apply Calls.mono; apply sGatOk_c; ((first | (apply Rs.at0; assumption) | (apply Ow.rs0; assumption) | (apply OwT.rs0; assumption)); exact kf_); rintro E w1 ⟨rfl, hb⟩; have hst := xr hb; (try simp only [zA, zC, zD, zN] at hst); obtain ⟨hc, hf, hz⟩ := hst) | (go_at_call 89; apply Calls.mono; apply sCopy_c; ((first | (apply Rs.at0; assumption) | (apply Ow.rs0; assumption) | (apply OwT.rs0; assumption)); exact kf_); (first | assumption | omega); rintro E w1 ⟨A', c', rfl, hr, hb⟩; have hst := xr hb; (try simp only [zA, zC, zD, zN] at hst); obtain ⟨hc, hf, hz⟩ := hst) | (go_at_call 94; refine (l1In_c _ _ _ _).mono ?_; rintro E w' ⟨rfl, rfl⟩) | (go_at_call 132; apply Calls.mono; apply sHas_c; (apply Rs.at0 hxs; (exact kf_)); rintro E w' ⟨rfl, rfl⟩) | (go_at_call 133; apply Calls.mono; apply sOwnCheckA_c; (apply Rs.at0 hps; (exact kf_)); rintro E wq ⟨rfl, hbq⟩; have hst := xr hbq; (try simp only [zA, zC, zD, zN] at hst); obtain ⟨hcq, hfq, hzq⟩ := hst))
    refine bodyPost_ret (v := .tuple #[.agg #[.int .i64 t.size, .int .i64 t.log, .int .i64 t.own, .slice A' n c'], .bool false]) (by simp [results, Try.results51, go_sem, *]) rfl ?_
    exact ⟨A', c', n, by rw [He.out], by rw [He.out]; exact (hr.keep (by (exact kf_))).less (by exact sz_), ext_⟩
  by_cases h3 : who = rh
  case neg =>
    have g3 : (rh != who) = true := by rw [bne_iff_ne]; exact Ne.symm h3
    have H3 := Lib.hid h3; clear h3
    have e : Sw.gatShow ⟨t, xs⟩ k who ⟨rh, rf, ru⟩ ps = (⟨t, xs⟩, false) := by unfold Sw.gatShow; rw [if_pos g1, if_neg (by simp [Sw.gatMay, H3.out])]
    have He := Lib.hid e; clear e
    go_enter Try.func51, Try.ntmps51
    go_wp2_with (first | (go_at_call 23; apply Calls.mono; apply sGatOk_c; ((first | (apply Rs.at0; assumption) | (apply Ow.rs0; assumption) | (apply OwT.rs0; assumption)); exact kf_); rintro E w1 ⟨rfl, hb⟩; have hst := xr hb; (try simp only [zA, zC, zD, zN] at hst); obtain ⟨hc, hf, hz⟩ := hst) | (go_at_call 89; apply Calls.mono; apply sCopy_c; ((first | (apply Rs.at0; assumption) | (apply Ow.rs0; assumption) | (apply OwT.rs0; assumption)); exact kf_); (first | assumption | omega); rintro E w1 ⟨A', c', rfl, hr, hb⟩; have hst := xr hb; (try simp only [zA, zC, zD, zN] at hst); obtain ⟨hc, hf, hz⟩ := hst) | (go_at_call 94; refine (l1In_c _ _ _ _).mono ?_; rintro E w' ⟨rfl, rfl⟩) | (go_at_call 132; apply Calls.mono; apply sHas_c; (apply Rs.at0 hxs; (exact kf_)); rintro E w' ⟨rfl, rfl⟩) | (go_at_call 133; apply Calls.mono; apply sOwnCheckA_c; (apply Rs.at0 hps; (exact kf_)); rintro E wq ⟨rfl, hbq⟩; have hst := xr hbq; (try simp only [zA, zC, zD, zN] at hst); obtain ⟨hcq, hfq, hzq⟩ := hst))
    refine bodyPost_ret (v := .tuple #[.agg #[.int .i64 t.size, .int .i64 t.log, .int .i64 t.own, .slice A' n c'], .bool false]) (by simp [results, Try.results51, go_sem, *]) rfl ?_
    exact ⟨A', c', n, by rw [He.out], by rw [He.out]; exact (hr.keep (by (exact kf_))).less (by exact sz_), ext_⟩
  subst h3
  cases ru
  case true =>
    have e : Sw.gatShow ⟨t, xs⟩ k who ⟨who, rf, true⟩ ps = (⟨t, xs⟩, false) := by unfold Sw.gatShow; rw [if_pos g1, if_neg (by simp [Sw.gatMay])]
    have He := Lib.hid e; clear e
    go_enter Try.func51, Try.ntmps51
    go_wp2_with (first | (go_at_call 23; apply Calls.mono; apply sGatOk_c; ((first | (apply Rs.at0; assumption) | (apply Ow.rs0; assumption) | (apply OwT.rs0; assumption)); exact kf_); rintro E w1 ⟨rfl, hb⟩; have hst := xr hb; (try simp only [zA, zC, zD, zN] at hst); obtain ⟨hc, hf, hz⟩ := hst) | (go_at_call 89; apply Calls.mono; apply sCopy_c; ((first | (apply Rs.at0; assumption) | (apply Ow.rs0; assumption) | (apply OwT.rs0; assumption)); exact kf_); (first | assumption | omega); rintro E w1 ⟨A', c', rfl, hr, hb⟩; have hst := xr hb; (try simp only [zA, zC, zD, zN] at hst); obtain ⟨hc, hf, hz⟩ := hst) | (go_at_call 94; refine (l1In_c _ _ _ _).mono ?_; rintro E w' ⟨rfl, rfl⟩) | (go_at_call 132; apply Calls.mono; apply sHas_c; (apply Rs.at0 hxs; (exact kf_)); rintro E w' ⟨rfl, rfl⟩) | (go_at_call 133; apply Calls.mono; apply sOwnCheckA_c; (apply Rs.at0 hps; (exact kf_)); rintro E wq ⟨rfl, hbq⟩; have hst := xr hbq; (try simp only [zA, zC, zD, zN] at hst); obtain ⟨hcq, hfq, hzq⟩ := hst))
    refine bodyPost_ret (v := .tuple #[.agg #[.int .i64 t.size, .int .i64 t.log, .int .i64 t.own, .slice A' n c'], .bool false]) (by simp [results, Try.results51, go_sem, *]) rfl ?_
    exact ⟨A', c', n, by rw [He.out], by rw [He.out]; exact (hr.keep (by (exact kf_))).less (by exact sz_), ext_⟩
  cases g5 : hasI xs k
  case true =>
    have H5 := Lib.hid (show k ∈ xs by simpa [hasI] using g5)
    have e : Sw.gatShow ⟨t, xs⟩ k who ⟨who, rf, false⟩ ps = (⟨t, xs⟩, false) := by unfold Sw.gatShow; rw [if_pos g1, if_neg (by simp [Sw.gatMay, H5.out])]
    have He := Lib.hid e; clear e
    go_enter Try.func51, Try.ntmps51
    go_wp2_with (first | (go_at_call 23; apply Calls.mono; apply sGatOk_c; ((first | (apply Rs.at0; assumption) | (apply Ow.rs0; assumption) | (apply OwT.rs0; assumption)); exact kf_); rintro E w1 ⟨rfl, hb⟩; have hst := xr hb; (try simp only [zA, zC, zD, zN] at hst); obtain ⟨hc, hf, hz⟩ := hst) | (go_at_call 89; apply Calls.mono; apply sCopy_c; ((first | (apply Rs.at0; assumption) | (apply Ow.rs0; assumption) | (apply OwT.rs0; assumption)); exact kf_); (first | assumption | omega); rintro E w1 ⟨A', c', rfl, hr, hb⟩; have hst := xr hb; (try simp only [zA, zC, zD, zN] at hst); obtain ⟨hc, hf, hz⟩ := hst) | (go_at_call 94; refine (l1In_c _ _ _ _).mono ?_; rintro E w' ⟨rfl, rfl⟩) | (go_at_call 132; apply Calls.mono; apply sHas_c; (apply Rs.at0 hxs; (exact kf_)); rintro E w' ⟨rfl, rfl⟩) | (go_at_call 133; apply Calls.mono; apply sOwnCheckA_c; (apply Rs.at0 hps; (exact kf_)); rintro E wq ⟨rfl, hbq⟩; have hst := xr hbq; (try simp only [zA, zC, zD, zN] at hst); obtain ⟨hcq, hfq, hzq⟩ := hst))
    refine bodyPost_ret (v := .tuple #[.agg #[.int .i64 t.size, .int .i64 t.log, .int .i64 t.own, .slice A' n c'], .bool false]) (by simp [results, Try.results51, go_sem, *]) rfl ?_
    exact ⟨A', c', n, by rw [He.out], by rw [He.out]; exact (hr.keep (by (exact kf_))).less (by exact sz_), ext_⟩
  have H5 := Lib.hid (show k ∉ xs by simpa [hasI] using g5)
  cases g6 : Sw.ownCheck t.own k ⟨who, rf, false⟩ ps
  case false =>
    have e : Sw.gatShow ⟨t, xs⟩ k who ⟨who, rf, false⟩ ps = (⟨t, xs⟩, false) := by unfold Sw.gatShow; rw [if_pos g1, if_neg (by simp [Sw.gatMay, g6])]
    have He := Lib.hid e; clear e
    go_enter Try.func51, Try.ntmps51
    go_wp2_with (first | (go_at_call 23; apply Calls.mono; apply sGatOk_c; ((first | (apply Rs.at0; assumption) | (apply Ow.rs0; assumption) | (apply OwT.rs0; assumption)); exact kf_); rintro E w1 ⟨rfl, hb⟩; have hst := xr hb; (try simp only [zA, zC, zD, zN] at hst); obtain ⟨hc, hf, hz⟩ := hst) | (go_at_call 89; apply Calls.mono; apply sCopy_c; ((first | (apply Rs.at0; assumption) | (apply Ow.rs0; assumption) | (apply OwT.rs0; assumption)); exact kf_); (first | assumption | omega); rintro E w1 ⟨A', c', rfl, hr, hb⟩; have hst := xr hb; (try simp only [zA, zC, zD, zN] at hst); obtain ⟨hc, hf, hz⟩ := hst) | (go_at_call 94; refine (l1In_c _ _ _ _).mono ?_; rintro E w' ⟨rfl, rfl⟩) | (go_at_call 132; apply Calls.mono; apply sHas_c; (apply Rs.at0 hxs; (exact kf_)); rintro E w' ⟨rfl, rfl⟩) | (go_at_call 133; apply Calls.mono; apply sOwnCheckA_c; (apply Rs.at0 hps; (exact kf_)); rintro E wq ⟨rfl, hbq⟩; have hst := xr hbq; (try simp only [zA, zC, zD, zN] at hst); obtain ⟨hcq, hfq, hzq⟩ := hst))
    refine bodyPost_ret (v := .tuple #[.agg #[.int .i64 t.size, .int .i64 t.log, .int .i64 t.own, .slice A' n c'], .bool false]) (by simp [results, Try.results51, go_sem, *]) rfl ?_
    exact ⟨A', c', n, by rw [He.out], by rw [He.out]; exact (hr.keep (by (exact kf_))).less (by exact sz_), ext_⟩
  have e : Sw.gatShow ⟨t, xs⟩ k who ⟨who, rf, false⟩ ps = (⟨t, Sw.insert k xs⟩, true) := by unfold Sw.gatShow; rw [if_pos g1, if_pos (by simp [Sw.gatMay, g2, H5.out, g6])]
  have He := Lib.hid e; clear e
  have HS := Lib.hid (gatOk_done g1)
  go_enter Try.func51, Try.ntmps51
  go_wp2_with (first | (go_at_call 134; apply Calls.mono; apply sPut9_c; ((first | (apply Rs.at0; assumption) | (apply Ow.rs0; assumption) | (apply OwT.rs0; assumption)); exact kf_); (first | assumption | omega); rintro E w1 ⟨A', c', rfl, hoP, hb⟩; have hst := xr hb; (try simp only [zA, zC, zD, zN] at hst); obtain ⟨hc, hf, hz⟩ := hst) | (go_at_call 23; apply Calls.mono; apply sGatOk_c; ((first | (apply Rs.at0; assumption) | (apply Ow.rs0; assumption) | (apply OwT.rs0; assumption)); exact kf_); rintro E w1 ⟨rfl, hb⟩; have hst := xr hb; (try simp only [zA, zC, zD, zN] at hst); obtain ⟨hc, hf, hz⟩ := hst) | (go_at_call 89; apply Calls.mono; apply sCopy_c; ((first | (apply Rs.at0; assumption) | (apply Ow.rs0; assumption) | (apply OwT.rs0; assumption)); exact kf_); (first | assumption | omega); rintro E w1 ⟨A', c', rfl, hr, hb⟩; have hst := xr hb; (try simp only [zA, zC, zD, zN] at hst); obtain ⟨hc, hf, hz⟩ := hst) | (go_at_call 94; refine (l1In_c _ _ _ _).mono ?_; rintro E w' ⟨rfl, rfl⟩) | (go_at_call 132; apply Calls.mono; apply sHas_c; (apply Rs.at0 hxs; (exact kf_)); rintro E w' ⟨rfl, rfl⟩) | (go_at_call 133; apply Calls.mono; apply sOwnCheckA_c; (apply Rs.at0 hps; (exact kf_)); rintro E wq ⟨rfl, hbq⟩; have hst := xr hbq; (try simp only [zA, zC, zD, zN] at hst); obtain ⟨hcq, hfq, hzq⟩ := hst))
  refine bodyPost_ret (v := .tuple #[.agg #[.int .i64 t.size, .int .i64 t.log, .int .i64 t.own, .slice A' (n + 1) c'], .bool true]) (by simp [results, Try.results51, go_sem, *]) rfl ?_
  exact ⟨A', c', n + 1, by rw [He.out], by rw [He.out]; exact (hoP.keep kf_).less sz_, ext_⟩
end Go.Proofs.Ytncoiknpkebgoaa

namespace Go.Proofs.Ytncoiknpkebgoaa
set_option maxRecDepth 100000
set_option linter.unusedSimpArgs false
set_option linter.unusedVariables false
open Go.RowKit Go
set_option maxHeartbeats 2000000

theorem gatOk_doneI {h : Sw.Head} {xs : List Int} (k : Sw.gatOk ⟨h, xs⟩ = true) : xs.Pairwise (· < ·) := by
  simp only [Sw.gatOk, Bool.and_eq_true] at k
  exact ((Sw.rises_iff xs (-1)).1 k.2).2
theorem iGatShow_c (t : Sw.Head) (A : Option Addr) (c n : Nat) (xs : List Int) (k who : Int) (r : Sw.Row) (B : Option Addr) (d m : Nat) (ps : List Int) (w : World) (hxs : RI w 0 A c n xs) (hps : RI w 0 B d m ps) : Calls Try.prog 55 #[.agg #[.int .i64 t.size, .int .i64 t.log, .int .i64 t.own, .slice A n c], .int .i64 k, .int .i64 who, .agg #[.int .i64 r.who, .int .i64 r.face, .bool r.used], .slice B m d] w fun E w' => ∃ A' c' n', E = .returned (.tuple #[.agg #[.int .i64 (Sw.gatShow ⟨t, xs⟩ k who r ps).1.head.size, .int .i64 (Sw.gatShow ⟨t, xs⟩ k who r ps).1.head.log, .int .i64 (Sw.gatShow ⟨t, xs⟩ k who r ps).1.head.own, .slice A' n' c'], .bool (Sw.gatShow ⟨t, xs⟩ k who r ps).2]) ∧ OwI w' w.heap.size A' c' n' (Sw.gatShow ⟨t, xs⟩ k who r ps).1.done ∧ Ex w w' := by
  obtain ⟨rh, rf, ru⟩ := r
  have hl := Lib.hid hxs.1
  cases g1 : Sw.gatOk ⟨t, xs⟩
  case false =>
    have e : Sw.gatShow ⟨t, xs⟩ k who ⟨rh, rf, ru⟩ ps = (Sw.gateZ, false) := by simp [Sw.gatShow, g1]
    have He := Lib.hid e; clear e
    go_enter Try.func55, Try.ntmps55
    go_wp2_with (first | (go_at_call 22; apply Calls.mono; apply iGatOk_c; ((first | (apply Rs.at0; assumption) | (apply Ow.rs0; assumption) | (apply OwT.rs0; assumption)); exact kf_); rintro E w1 ⟨rfl, hb⟩; have hst := xr hb; (try simp only [zA, zC, zD, zN] at hst); obtain ⟨hc, hf, hz⟩ := hst))
    refine bodyPost_ret (v := .tuple #[.agg #[.int .i64 0, .int .i64 0, .int .i64 0, .slice none 0 0], .bool false]) (by simp [results, Try.results55, go_sem, *]) rfl ?_
    exact ⟨none, 0, 0, by rw [He.out]; rfl, by rw [He.out]; exact Ow.nil _ _, ext_⟩
  have h8 : n ≤ 8 := by have := gatOk_len g1; have := hl.out; simp at *; omega
  cases g2 : Sw.inR who 1 5
  case false =>
    have e : Sw.gatShow ⟨t, xs⟩ k who ⟨rh, rf, ru⟩ ps = (⟨t, xs⟩, false) := by unfold Sw.gatShow; rw [if_pos g1, if_neg (by simp [Sw.gatMay, g2])]
    have He := Lib.hid e; clear e
    go_enter Try.func55, Try.ntmps55
    go_wp2_with (first | (go_at_call 22; apply Calls.mono; apply iGatOk_c; ((first | (apply Rs.at0; assumption) | (apply Ow.rs0; assumption) | (apply OwT.rs0; assumption)); exact kf_); rintro E w1 ⟨rfl, hb⟩; have hst := xr hb; (try simp only [zA, zC, zD, zN] at hst); obtain ⟨hc, hf, hz⟩ := hst) | (go_at_call 88; apply Calls.mono; apply iClone_c; ((first | (apply Rs.at0; assumption) | (apply Ow.rs0; assumption) | (apply OwT.rs0; assumption)); exact kf_); (first | assumption | omega); rintro E w1 ⟨A', c', rfl, hr, hb⟩; have hst := xr hb; (try simp only [zA, zC, zD, zN] at hst); obtain ⟨hc, hf, hz⟩ := hst) | (go_at_call 136; refine (isUser_c _ _).mono ?_; rintro E w' ⟨rfl, rfl⟩) | (go_at_call 137; apply Calls.mono; apply iContains_c; (apply Rs.at0 hxs; (exact kf_)); rintro E w' ⟨rfl, rfl⟩) | (go_at_call 138; apply Calls.mono; apply iOwnCheckA_c; (apply Rs.at0 hps; (exact kf_)); rintro E wq ⟨rfl, hbq⟩; have hst := xr hbq; (try simp only [zA, zC, zD, zN] at hst); obtain ⟨hcq, hfq, hzq⟩ := hst))
    refine bodyPost_ret (v := .tuple #[.agg #[.int .i64 t.size, .int .i64 t.log, .int .i64 t.own, .slice A' n c'], .bool false]) (by simp [results, Try.results55, go_sem, *]) rfl ?_
    exact ⟨A', c', n, by rw [He.out], by rw [He.out]; exact (hr.keep (by (exact kf_))).less (by exact sz_), ext_⟩
  by_cases h3 : who = rh
  case neg =>
    have g3 : (who != rh) = true := by rw [bne_iff_ne]; exact h3
    have H3 := Lib.hid h3; clear h3
    have e : Sw.gatShow ⟨t, xs⟩ k who ⟨rh, rf, ru⟩ ps = (⟨t, xs⟩, false) := by unfold Sw.gatShow; rw [if_pos g1, if_neg (by simp [Sw.gatMay, H3.out])]
    have He := Lib.hid e; clear e
    go_enter Try.func55, Try.ntmps55
    go_wp2_with (first | (go_at_call 22; apply Calls.mono; apply iGatOk_c; ((first | (apply Rs.at0; assumption) | (apply Ow.rs0; assumption) | (apply OwT.rs0; assumption)); exact kf_); rintro E w1 ⟨rfl, hb⟩; have hst := xr hb; (try simp only [zA, zC, zD, zN] at hst); obtain ⟨hc, hf, hz⟩ := hst) | (go_at_call 88; apply Calls.mono; apply iClone_c; ((first | (apply Rs.at0; assumption) | (apply Ow.rs0; assumption) | (apply OwT.rs0; assumption)); exact kf_); (first | assumption | omega); rintro E w1 ⟨A', c', rfl, hr, hb⟩; have hst := xr hb; (try simp only [zA, zC, zD, zN] at hst); obtain ⟨hc, hf, hz⟩ := hst) | (go_at_call 136; refine (isUser_c _ _).mono ?_; rintro E w' ⟨rfl, rfl⟩) | (go_at_call 137; apply Calls.mono; apply iContains_c; (apply Rs.at0 hxs; (exact kf_)); rintro E w' ⟨rfl, rfl⟩) | (go_at_call 138; apply Calls.mono; apply iOwnCheckA_c; (apply Rs.at0 hps; (exact kf_)); rintro E wq ⟨rfl, hbq⟩; have hst := xr hbq; (try simp only [zA, zC, zD, zN] at hst); obtain ⟨hcq, hfq, hzq⟩ := hst))
    refine bodyPost_ret (v := .tuple #[.agg #[.int .i64 t.size, .int .i64 t.log, .int .i64 t.own, .slice A' n c'], .bool false]) (by simp [results, Try.results55, go_sem, *]) rfl ?_
    exact ⟨A', c', n, by rw [He.out], by rw [He.out]; exact (hr.keep (by (exact kf_))).less (by exact sz_), ext_⟩
  subst h3
  cases ru
  case true =>
    have e : Sw.gatShow ⟨t, xs⟩ k who ⟨who, rf, true⟩ ps = (⟨t, xs⟩, false) := by unfold Sw.gatShow; rw [if_pos g1, if_neg (by simp [Sw.gatMay])]
    have He := Lib.hid e; clear e
    go_enter Try.func55, Try.ntmps55
    go_wp2_with (first | (go_at_call 22; apply Calls.mono; apply iGatOk_c; ((first | (apply Rs.at0; assumption) | (apply Ow.rs0; assumption) | (apply OwT.rs0; assumption)); exact kf_); rintro E w1 ⟨rfl, hb⟩; have hst := xr hb; (try simp only [zA, zC, zD, zN] at hst); obtain ⟨hc, hf, hz⟩ := hst) | (go_at_call 88; apply Calls.mono; apply iClone_c; ((first | (apply Rs.at0; assumption) | (apply Ow.rs0; assumption) | (apply OwT.rs0; assumption)); exact kf_); (first | assumption | omega); rintro E w1 ⟨A', c', rfl, hr, hb⟩; have hst := xr hb; (try simp only [zA, zC, zD, zN] at hst); obtain ⟨hc, hf, hz⟩ := hst) | (go_at_call 136; refine (isUser_c _ _).mono ?_; rintro E w' ⟨rfl, rfl⟩) | (go_at_call 137; apply Calls.mono; apply iContains_c; (apply Rs.at0 hxs; (exact kf_)); rintro E w' ⟨rfl, rfl⟩) | (go_at_call 138; apply Calls.mono; apply iOwnCheckA_c; (apply Rs.at0 hps; (exact kf_)); rintro E wq ⟨rfl, hbq⟩; have hst := xr hbq; (try simp only [zA, zC, zD, zN] at hst); obtain ⟨hcq, hfq, hzq⟩ := hst))
    refine bodyPost_ret (v := .tuple #[.agg #[.int .i64 t.size, .int .i64 t.log, .int .i64 t.own, .slice A' n c'], .bool false]) (by simp [results, Try.results55, go_sem, *]) rfl ?_
    exact ⟨A', c', n, by rw [He.out], by rw [He.out]; exact (hr.keep (by (exact kf_))).less (by exact sz_), ext_⟩
  cases g5 : hasI xs k
  case true =>
    have H5 := Lib.hid (show k ∈ xs by simpa [hasI] using g5)
    have e : Sw.gatShow ⟨t, xs⟩ k who ⟨who, rf, false⟩ ps = (⟨t, xs⟩, false) := by unfold Sw.gatShow; rw [if_pos g1, if_neg (by simp [Sw.gatMay, H5.out])]
    have He := Lib.hid e; clear e
    go_enter Try.func55, Try.ntmps55
    go_wp2_with (first | (go_at_call 22; apply Calls.mono; apply iGatOk_c; ((first | (apply Rs.at0; assumption) | (apply Ow.rs0; assumption) | (apply OwT.rs0; assumption)); exact kf_); rintro E w1 ⟨rfl, hb⟩; have hst := xr hb; (try simp only [zA, zC, zD, zN] at hst); obtain ⟨hc, hf, hz⟩ := hst) | (go_at_call 88; apply Calls.mono; apply iClone_c; ((first | (apply Rs.at0; assumption) | (apply Ow.rs0; assumption) | (apply OwT.rs0; assumption)); exact kf_); (first | assumption | omega); rintro E w1 ⟨A', c', rfl, hr, hb⟩; have hst := xr hb; (try simp only [zA, zC, zD, zN] at hst); obtain ⟨hc, hf, hz⟩ := hst) | (go_at_call 136; refine (isUser_c _ _).mono ?_; rintro E w' ⟨rfl, rfl⟩) | (go_at_call 137; apply Calls.mono; apply iContains_c; (apply Rs.at0 hxs; (exact kf_)); rintro E w' ⟨rfl, rfl⟩) | (go_at_call 138; apply Calls.mono; apply iOwnCheckA_c; (apply Rs.at0 hps; (exact kf_)); rintro E wq ⟨rfl, hbq⟩; have hst := xr hbq; (try simp only [zA, zC, zD, zN] at hst); obtain ⟨hcq, hfq, hzq⟩ := hst))
    refine bodyPost_ret (v := .tuple #[.agg #[.int .i64 t.size, .int .i64 t.log, .int .i64 t.own, .slice A' n c'], .bool false]) (by simp [results, Try.results55, go_sem, *]) rfl ?_
    exact ⟨A', c', n, by rw [He.out], by rw [He.out]; exact (hr.keep (by (exact kf_))).less (by exact sz_), ext_⟩
  have H5 := Lib.hid (show k ∉ xs by simpa [hasI] using g5)
  cases g6 : Sw.ownCheck t.own k ⟨who, rf, false⟩ ps
  case false =>
    have e : Sw.gatShow ⟨t, xs⟩ k who ⟨who, rf, false⟩ ps = (⟨t, xs⟩, false) := by unfold Sw.gatShow; rw [if_pos g1, if_neg (by simp [Sw.gatMay, g6])]
    have He := Lib.hid e; clear e
    go_enter Try.func55, Try.ntmps55
    go_wp2_with (first | (go_at_call 22; apply Calls.mono; apply iGatOk_c; ((first | (apply Rs.at0; assumption) | (apply Ow.rs0; assumption) | (apply OwT.rs0; assumption)); exact kf_); rintro E w1 ⟨rfl, hb⟩; have hst := xr hb; (try simp only [zA, zC, zD, zN] at hst); obtain ⟨hc, hf, hz⟩ := hst) | (go_at_call 88; apply Calls.mono; apply iClone_c; ((first | (apply Rs.at0; assumption) | (apply Ow.rs0; assumption) | (apply OwT.rs0; assumption)); exact kf_); (first | assumption | omega); rintro E w1 ⟨A', c', rfl, hr, hb⟩; have hst := xr hb; (try simp only [zA, zC, zD, zN] at hst); obtain ⟨hc, hf, hz⟩ := hst) | (go_at_call 136; refine (isUser_c _ _).mono ?_; rintro E w' ⟨rfl, rfl⟩) | (go_at_call 137; apply Calls.mono; apply iContains_c; (apply Rs.at0 hxs; (exact kf_)); rintro E w' ⟨rfl, rfl⟩) | (go_at_call 138; apply Calls.mono; apply iOwnCheckA_c; (apply Rs.at0 hps; (exact kf_)); rintro E wq ⟨rfl, hbq⟩; have hst := xr hbq; (try simp only [zA, zC, zD, zN] at hst); obtain ⟨hcq, hfq, hzq⟩ := hst))
    refine bodyPost_ret (v := .tuple #[.agg #[.int .i64 t.size, .int .i64 t.log, .int .i64 t.own, .slice A' n c'], .bool false]) (by simp [results, Try.results55, go_sem, *]) rfl ?_
    exact ⟨A', c', n, by rw [He.out], by rw [He.out]; exact (hr.keep (by (exact kf_))).less (by exact sz_), ext_⟩
  have e : Sw.gatShow ⟨t, xs⟩ k who ⟨who, rf, false⟩ ps = (⟨t, Sw.insert k xs⟩, true) := by unfold Sw.gatShow; rw [if_pos g1, if_pos (by simp [Sw.gatMay, g2, H5.out, g6])]
  have He := Lib.hid e; clear e
  have HS := Lib.hid (gatOk_doneI g1)
  go_enter Try.func55, Try.ntmps55
  go_wp2_with (first | (have _ := ho3; (go_at_call 88; apply Calls.mono; apply iClone_c; ((first | (apply Rs.at0; assumption) | (apply Ow.rs0; assumption) | (apply OwT.rs0; assumption)); exact kf_); (first | assumption | omega); rintro E w1 ⟨AZ, cZ, rfl, hrZ, hb⟩; have hst := xr hb; (try simp only [zA, zC, zD, zN] at hst); obtain ⟨hc, hf, hz⟩ := hst)) | (go_at_call 22; apply Calls.mono; apply iGatOk_c; (first | assumption | ((first | (apply Rs.at0; assumption) | (apply Ow.rs0; assumption) | (apply OwT.rs0; assumption)); exact kf_) | omega); rintro E wg ⟨rfl, hbg⟩; have hst := xr hbg; (try simp only [zA, zC, zD, zN] at hst); obtain ⟨hcg, hfg, hzg⟩ := hst) | (go_at_call 88; apply Calls.mono; apply iClone_c; ((first | (apply Rs.at0; assumption) | (apply Ow.rs0; assumption) | (apply OwT.rs0; assumption)); exact kf_); omega; rintro E wc ⟨A', c', rfl, hr, hb1⟩; have hst := xr hb1; (try simp only [zA, zC, zD, zN] at hst); obtain ⟨hc1, hf1, hz1⟩ := hst) | (go_at_call 136; refine (isUser_c _ _).mono ?_; rintro E w' ⟨rfl, rfl⟩) | (go_at_call 137; apply Calls.mono; apply iContains_c; (apply Rs.at0 hxs; (exact kf_)); rintro E w' ⟨rfl, rfl⟩) | (go_at_call 138; apply Calls.mono; apply iOwnCheckA_c; (apply Rs.at0 hps; (exact kf_)); rintro E wq ⟨rfl, hbq⟩; have hst := xr hbq; (try simp only [zA, zC, zD, zN] at hst); obtain ⟨hcq, hfq, hzq⟩ := hst) | (at_builtin; apply wpList_app (lo := wg.heap.size) el_I one_I rfl rfl rfl rfl; (exact Ow.keep hr kf_); (refine Rs.new [k] (by (first | rfl | (simp only [zA, zC, zD, zN]; done) | omega)) rfl rfl (fun _ => rfl) (by omega)); omega; (exact sz_); intro A1 c1 w2 ho1 hch1 hat1 hex1 hlow1; have hb2 := hex1 (fun _ => False) w ext_ sz_; obtain ⟨hB0, hF0⟩ := Ch.atA_keep hch1 (g := wc.heap.size) sz_ (Ow.apart hr (Nat.le_refl _)); obtain ⟨hc2, hf2⟩ := low_rules hlow1; have hz2 := hch1.size; (try simp only [zA, zC, zD, zN] at hz2); have hA1 : ∀ a, A1 = some a → a.block ≠ wc.heap.size := (fun a ha => by rcases hat1 a ha with e | e; (exact Ow.apart hr (Nat.le_refl _) a e); (simp only [zA, zC, zD, zN] at e; omega))) | (go_at_call 139; apply Calls.mono; apply (iSort_c (lo := wg.heap.size)); (exact ho1.keep_ fun a ha => (Ch.setCell (S := (· = wc.heap.size)) (Ch.refl _ _) (Or.inl rfl) _).block a.block (ho1.blk ha).2 (hA1 a ha)); omega; omega; rintro E w3 ⟨rfl, ho3, hch3⟩; rw [sort_insert HS.out H5.out] at ho3; obtain ⟨hB3, hF3⟩ := Ch.atA_keep hch3 (g := wc.heap.size) sz_ hA1; obtain ⟨hB4, hF4⟩ := Ch.atA_keep hch3 (g := w.heap.size + 1 + 1) sz_ (fun a ha => by have := (ho1.blk ha).1; omega); have hz3 := hch3.size; (try simp only [zA, zC, zD, zN] at hz3)))
  refine bodyPost_ret (v := .tuple #[.agg #[.int .i64 t.size, .int .i64 t.log, .int .i64 t.own, .slice AZ (n + 1) cZ], .bool true]) (by simp [results, Try.results55, go_sem, *]) rfl ?_
  have hS : ∀ i, atA A1 i → w.heap.size ≤ i := fun i ⟨a, ha, e⟩ => by have := (ho1.blk ha).1; omega
  have hb3 : Ch (fun _ => False) w w3 := (show Ch (fun _ => False) w (w2.setCell ⟨wc.heap.size, 3, none⟩ (.slice A1 (n + 1) c1)) from ext_).trans' hch3 (fun i hi ht => by have := hS i ht; omega)
  exact ⟨AZ, cZ, n + 1, by rw [He.out], by rw [He.out]; exact (hrZ.keep kf_).less sz_, ext_⟩
end Go.Proofs.Ytncoiknpkebgoaa

namespace Go.Proofs.Ytncoiknpkebgoaa
set_option maxRecDepth 100000
set_option linter.unusedSimpArgs false
set_option linter.unusedVariables false
open Go.RowKit Go
set_option maxHeartbeats 8000000

/-- Block g holds a gate. -/
def GateAt2 (w : World) (g : Nat) (t : Sw.Head) (v : Value) : Prop :=
  g < w.heap.size ∧ w.cell? ⟨g, 0, none⟩ = some (.int .i64 t.size) ∧ w.cell? ⟨g, 1, none⟩ = some (.int .i64 t.log) ∧ w.cell? ⟨g, 2, none⟩ = some (.int .i64 t.own) ∧ w.cell? ⟨g, 3, none⟩ = some v

theorem insert_len (k : Int) (xs : List Int) : (Sw.insert k xs).length = xs.length + 1 := by
  have := (insert_perm k xs).length_eq
  simpa using this.symm
theorem gatShow_len (g : Sw.Gate) (k who : Int) (r : Sw.Row) (p : List Int) : (Sw.gatShow g k who r p).1.done.length ≤ max g.done.length 9 := by
  unfold Sw.gatShow
  split
  · rename_i h1
    have := gatOk_len h1
    split
    · simp [insert_len]; omega
    · simp; omega
  · simp [Sw.gateZ]
theorem toOwnRow_c (r : Sw.Row) (w : World) : Calls Try.prog 53 #[.agg #[.int .i64 r.who, .int .i64 r.face, .bool r.used]] w fun E w' => E = .returned (.agg #[.int .i64 r.who, .int .i64 r.face, .bool r.used]) ∧ Ex w w' := by
  go_enter Try.func53, Try.ntmps53
  go_wp2_with fail
  refine bodyPost_ret (v := .agg #[.int .i64 r.who, .int .i64 r.face, .bool r.used]) (by simp [results, Try.results53, go_sem, *]) rfl ?_
  exact ⟨rfl, ext_⟩

theorem exGatShow_c (t : Sw.Head) (A : Option Addr) (c n : Nat) (xs : List Int) (k who : Int) (ro : Sw.Row) (B : Option Addr) (d m : Nat) (ps : List Int) (w : World) (hxs : RI w 0 A c n xs) (hps : RI w 0 B d m ps) : Calls Try.prog 8 #[.agg #[.int .i64 t.size, .int .i64 t.log, .int .i64 t.own, .slice A n c], .int .i64 k, .int .i64 who, .agg #[.int .i64 ro.who, .int .i64 ro.face, .bool ro.used], .slice B m d] w fun E w' => E = .returned (.bool true) ∧ Ex w w' := by
  have hbig : n ≤ 9223372036854775807 := by have := hxs.2.le; have := hxs.2.cap; unfold maxLen at this; omega
  have hbig' : m ≤ 9223372036854775807 := by have := hps.2.le; have := hps.2.cap; unfold maxLen at this; omega
  by_cases hm : m ≤ 1048576
  case neg =>
    go_enter Try.func8, Try.ntmps8
    go_wp2_with fail
    go_ret
    exact ⟨rfl, ext_⟩
  by_cases hn : n ≤ 1048576
  case neg =>
    have hv : ((if (1048576 : Int) - n < 0 then -1 else 1048576 - n : Int)) = -1 := by rw [if_pos (by omega)]
    go_enter Try.func8, Try.ntmps8
    go_wp2_with (go_at_call 50; apply Calls.mono; apply szGatGate_c; ((first | (apply Rs.at0; assumption) | (apply Ow.rs0; assumption)); exact kf_); omega; omega; rintro E w1 ⟨rfl, hb⟩; rw [hv]; have hst := xr hb; (try simp only [zA, zC, zD, zN] at hst); obtain ⟨hc, hf, hz⟩ := hst)
    go_ret
    exact ⟨rfl, ext_⟩
  have hv : ((if (1048576 : Int) - n < 0 then -1 else 1048576 - n : Int)) = 1048576 - n := by rw [if_neg (by omega)]
  have hv' : decide ((1048576 : Int) - n < 0) = false := by simp; omega
  go_enter Try.func8, Try.ntmps8
  go_upto_region 7 with (go_at_call 50; apply Calls.mono; apply szGatGate_c; ((first | (apply Rs.at0; assumption) | (apply Ow.rs0; assumption)); exact kf_); omega; omega; rintro E w1 ⟨rfl, hb⟩; rw [hv]; have hst := xr hb; (try simp only [zA, zC, zD, zN] at hst); obtain ⟨hc, hf, hz⟩ := hst)
  go_cut [12, 13] (fun r b wx => ∃ g A' c' n', r = .pointer (some ⟨g, 0, none⟩) ∧ b = .bool (Sw.gatShow ⟨t, xs⟩ k who ro ps).2 ∧ Ex w1 wx ∧ GateAt2 wx g (Sw.gatShow ⟨t, xs⟩ k who ro ps).1.head (.slice A' n' c') ∧ OwI wx w1.heap.size A' c' n' (Sw.gatShow ⟨t, xs⟩ k who ro ps).1.done)
  case first =>
    (refine wp_name ?_; intro W0 hb0; have hst := xr hb0; (try simp only [zA, zC, zD, zN] at hst); obtain ⟨hc0, hf0, hz0⟩ := hst; go_region_held3 (fun w' => Held W0 w') ((first | with_reducible assumption | with_reducible exact Held.start _ | with_reducible exact Held.of (by assumption) | with_reducible exact Held.ex (by assumption) (by assumption) | ((repeat (first | with_reducible refine Held.set ?_ (by simp only [zA, zC, zD, zN]; omega) | with_reducible refine Held.alloc ?_ _ | with_reducible refine Held.drew ?_)); (first | with_reducible assumption | with_reducible exact Held.refl _ | with_reducible exact Held.of (by assumption) | with_reducible exact Held.ex (by assumption) (by assumption))) | exact Held.of (by exact ext_))) ((first | (go_at_call 52; apply Calls.mono; apply toGatGate_c; ((first | (apply Rs.at0; assumption) | (apply Ow.rs0; assumption)); exact kf_); (first | assumption | omega); rintro E w1 ⟨g, rfl, ho1, hge1, hlt1, hb⟩; (try simp only [zA, zC, zD, zN] at hge1); (try simp only [zA, zC, zD, zN] at hlt1); have hst := xr hb; (try simp only [zA, zC, zD, zN] at hst); obtain ⟨hc, hf, hz⟩ := hst) | (go_at_call 53; refine (toOwnRow_c _ _).mono ?_; rintro E w1 ⟨rfl, hb⟩; have hst := xr hb; (try simp only [zA, zC, zD, zN] at hst); obtain ⟨hc, hf, hz⟩ := hst) | (go_at_call 54; apply Calls.mono; apply toIntS_c; ((first | (apply Rs.at0; assumption) | (apply Ow.rs0; assumption)); exact kf_); (first | assumption | omega); rintro E w1 ⟨g, rfl, ho2, hge2, hlt2, hb⟩; (try simp only [zA, zC, zD, zN] at hge2); (try simp only [zA, zC, zD, zN] at hlt2); have hst := xr hb; (try simp only [zA, zC, zD, zN] at hst); obtain ⟨hc, hf, hz⟩ := hst) | (go_at_call 51; apply Calls.mono; apply sGatShow_c; ((first | (apply Rs.at0; assumption) | (apply Ow.rs0; assumption)); exact kf_); ((first | (apply Rs.at0; assumption) | (apply Ow.rs0; assumption)); exact kf_); rintro E w1 ⟨A', c', n', rfl, ho3, hb⟩; have hst := xr hb; (try simp only [zA, zC, zD, zN] at hst); obtain ⟨hc, hf, hz⟩ := hst))); all_goals (have hb := And.right (by assumption : Held W0 _); have hst := xr hb; (try simp only [zA, zC, zD, zN] at hst); obtain ⟨hc, hf, hz⟩ := hst))
    all_goals (go_wp2_with fail; go_meet)
    all_goals (refine ⟨_, A', c', n', rfl, rfl, ext_, ⟨(by exact sz_), ?_, ?_, ?_, ?_⟩, (ho3.keep (by (exact kf_))).less (by exact sz_)⟩)
    all_goals (simp [go_sem, *]; done)
  case rest =>
    obtain ⟨g8, A0, c0, n0, rfl, rfl, hbc, ⟨hg8, e80, e81, e82, e83⟩, ho0⟩ := hcut
    have hst := xr hbc; (try simp only [zA, zC, zD, zN] at hst); obtain ⟨_, _, _⟩ := hst
    have hlen : (Sw.gatShow ⟨t, xs⟩ k who ro ps).1.done.length ≤ max xs.length 9 := gatShow_len ⟨t, xs⟩ k who ro ps
    have hxl := Lib.hid hxs.1
    go_upto_region 10 with (first | (go_at_call 52; apply Calls.mono; apply toGatGate_c; ((first | (apply Rs.at0; assumption) | (apply Ow.rs0; assumption)); exact kf_); (first | assumption | omega); rintro E w1 ⟨gX, rfl, hoX, hgeX, hltX, hb⟩; (try simp only [zA, zC, zD, zN] at hgeX); (try simp only [zA, zC, zD, zN] at hltX); have hst := xr hb; (try simp only [zA, zC, zD, zN] at hst); obtain ⟨hc, hf, hz⟩ := hst) | (go_at_call 54; apply Calls.mono; apply toIntS_c; ((first | (apply Rs.at0; assumption) | (apply Ow.rs0; assumption)); exact kf_); (first | assumption | omega); rintro E w1 ⟨gY, rfl, hoY, hgeY, hltY, hb⟩; (try simp only [zA, zC, zD, zN] at hgeY); (try simp only [zA, zC, zD, zN] at hltY); have hst := xr hb; (try simp only [zA, zC, zD, zN] at hst); obtain ⟨hc, hf, hz⟩ := hst))
    go_cut [16, 17] (fun r b wx => ∃ g q A' c' n', r = .pointer (some ⟨g, 0, none⟩) ∧ b = .bool (Sw.gatShow ⟨t, xs⟩ k who ro ps).2 ∧ Ex w1 wx ∧ GateAt2 wx g (Sw.gatShow ⟨t, xs⟩ k who ro ps).1.head (.slice A' n' c') ∧ OwI wx w1.heap.size A' c' n' (Sw.gatShow ⟨t, xs⟩ k who ro ps).1.done ∧ (A' = none ∨ A' = some ⟨q, 0, none⟩) ∧ q ≠ g ∧ w1.heap.size ≤ q ∧ w1.heap.size ≤ g)
    case first =>
      (refine wp_name ?_; intro W0 hb0; have hst := xr hb0; (try simp only [zA, zC, zD, zN] at hst); obtain ⟨hc0, hf0, hz0⟩ := hst; go_region_held3 (fun w' => Held W0 w') ((first | with_reducible assumption | with_reducible exact Held.start _ | with_reducible exact Held.of (by assumption) | with_reducible exact Held.ex (by assumption) (by assumption) | ((repeat (first | with_reducible refine Held.set ?_ (by simp only [zA, zC, zD, zN]; omega) | with_reducible refine Held.alloc ?_ _ | with_reducible refine Held.drew ?_)); (first | with_reducible assumption | with_reducible exact Held.refl _ | with_reducible exact Held.of (by assumption) | with_reducible exact Held.ex (by assumption) (by assumption))) | exact Held.of (by exact ext_))) ((first | (go_at_call 53; refine (toOwnRow_c _ _).mono ?_; rintro E w1 ⟨rfl, hb⟩; have hst := xr hb; (try simp only [zA, zC, zD, zN] at hst); obtain ⟨hc, hf, hz⟩ := hst) | (go_at_call 55; apply Calls.mono; apply iGatShow_c; ((first | (apply Rs.at0; assumption) | (apply Ow.rs0; assumption)); exact kf_); ((first | (apply Rs.at0; assumption) | (apply Ow.rs0; assumption)); exact kf_); rintro E w1 ⟨A', c', n', rfl, ho3, hb⟩; have hst := xr hb; (try simp only [zA, zC, zD, zN] at hst); obtain ⟨hc, hf, hz⟩ := hst))); all_goals (have hb := And.right (by assumption : Held W0 _); have hst := xr hb; (try simp only [zA, zC, zD, zN] at hst); obtain ⟨hc, hf, hz⟩ := hst))
      all_goals (go_wp2_with fail; go_meet)
      all_goals (rcases ho3.form with ⟨rfl, rfl, rfl⟩ | ⟨q, cur, rfl, hqlo, hqlt, _⟩)
      all_goals first | (refine ⟨_, q, some ⟨q, 0, none⟩, _, _, rfl, rfl, ext_, ⟨(by exact sz_), ?_, ?_, ?_, ?_⟩, (ho3.keep (by (exact kf_))).less (by exact sz_), .inr rfl, (by exact sz_), (by exact sz_), (by exact sz_)⟩) | (refine ⟨_, _ + 1, none, 0, 0, rfl, rfl, ext_, ⟨(by exact sz_), ?_, ?_, ?_, ?_⟩, (ho3.keep (by (exact kf_))).less (by exact sz_), .inl rfl, Nat.succ_ne_self _, (by exact sz_), (by exact sz_)⟩)
      all_goals (simp [go_sem, *]; done)
    case rest =>
      obtain ⟨g12, q, A3, c3, n3, rfl, rfl, hbc3, ⟨hg12, e120, e121, e122, e123⟩, ho12, hAq, hqg, hqlo, hglo⟩ := hcut
      have hst := xr hbc3; (try simp only [zA, zC, zD, zN] at hst); obtain ⟨_, _, _⟩ := hst
      have hn3 : n3 ≤ 1048576 := by have := ho12.1; have := hxl.out; omega
      have k1 : decide (1 + (n : Int) + m < 0) = false := by simp; omega
      have k2 : decide (1 + (n3 : Int) < 0) = false := by simp; omega
      go_upto_region 13 with (go_at_call 56; apply Calls.mono; apply eqGatGate_c; ((first | (apply Rs.at0; assumption) | (apply Ow.rs0; assumption)); exact kf_); ((first | (apply Rs.at0; assumption) | (apply Ow.rs0; assumption)); exact kf_); rintro E w1 ⟨rfl, hb⟩; have hst := xr hb; (try simp only [zA, zC, zD, zN] at hst); obtain ⟨hc, hf, hz⟩ := hst)
      (refine wp_name ?_; intro W0 hb0; have hst := xr hb0; (try simp only [zA, zC, zD, zN] at hst); obtain ⟨hc0, hf0, hz0⟩ := hst; go_region_held3 (fun w' => Held W0 w') ((first | with_reducible assumption | with_reducible exact Held.start _ | with_reducible exact Held.of (by assumption) | with_reducible exact Held.ex (by assumption) (by assumption) | ((repeat (first | with_reducible refine Held.set ?_ (by simp only [zA, zC, zD, zN]; omega) | with_reducible refine Held.alloc ?_ _ | with_reducible refine Held.drew ?_)); (first | with_reducible assumption | with_reducible exact Held.refl _ | with_reducible exact Held.of (by assumption) | with_reducible exact Held.ex (by assumption) (by assumption))) | exact Held.of (by exact ext_))) ((first | (go_at_call 52; apply Calls.mono; apply toGatGate_c; ((first | (apply Rs.at0; assumption) | (apply Ow.rs0; assumption)); exact kf_); (first | assumption | omega); rintro E w1 ⟨gZ, rfl, hoZ, hgeZ, hltZ, hb⟩; (try simp only [zA, zC, zD, zN] at hgeZ); (try simp only [zA, zC, zD, zN] at hltZ); have hst := xr hb; (try simp only [zA, zC, zD, zN] at hst); obtain ⟨hc, hf, hz⟩ := hst) | (go_at_call 56; apply Calls.mono; apply eqGatGate_c; ((first | (apply Rs.at0; assumption) | (apply Ow.rs0; assumption)); exact kf_); ((first | (apply Rs.at0; assumption) | (apply Ow.rs0; assumption)); exact kf_); rintro E w1 ⟨rfl, hb⟩; have hst := xr hb; (try simp only [zA, zC, zD, zN] at hst); obtain ⟨hc, hf, hz⟩ := hst))); all_goals (have hb := And.right (by assumption : Held W0 _); have hst := xr hb; (try simp only [zA, zC, zD, zN] at hst); obtain ⟨hc, hf, hz⟩ := hst))
      go_upto_region 30 with (first | (go_at_call 54; apply Calls.mono; apply toIntS_c; ((first | (apply Rs.at0; assumption) | (apply Ow.rs0; assumption)); exact kf_); (first | assumption | omega); rintro E w1 ⟨gV, rfl, hoV, hgeV, hltV, hb⟩; (try simp only [zA, zC, zD, zN] at hgeV); (try simp only [zA, zC, zD, zN] at hltV); have hst := xr hb; (try simp only [zA, zC, zD, zN] at hst); obtain ⟨hc, hf, hz⟩ := hst) | (go_at_call 57; apply Calls.mono; apply eqIntS_c; ((first | (apply Rs.at0; assumption) | (apply Ow.rs0; assumption)); exact kf_); ((first | (apply Rs.at0; assumption) | (apply Ow.rs0; assumption)); exact kf_); rintro E w1 ⟨rfl, hb⟩; have hst := xr hb; (try simp only [zA, zC, zD, zN] at hst); obtain ⟨hc, hf, hz⟩ := hst) | (go_at_call 58; apply Calls.mono; apply markGatGate_c; (first | assumption | (apply Ow.keep; assumption; exact kf_)); omega; omega; omega; rintro E w1 ⟨rfl, hmk, hbk⟩; have hb := Ch.atq hbk (by first | exact Or.inr rfl | assumption); clear hbk; have hst := xc hb; (try simp only [zA, zC, zD, zN] at hst); obtain ⟨hc, hf, hz⟩ := hst) | (go_at_call 59; apply Calls.mono; apply markIntS_c; (first | assumption | (apply Ow.keep; assumption; exact kf_)); omega; omega; omega; rintro E w1 ⟨rfl, hmk, hbk⟩; have hb := Ch.atq hbk (by first | exact Or.inr rfl | assumption); clear hbk; have hst := xc hb; (try simp only [zA, zC, zD, zN] at hst); obtain ⟨hc, hf, hz⟩ := hst) | (go_at_call 56; apply Calls.mono; apply eqGatGate_c; ((first | (apply Rs.at0; assumption) | (apply Ow.rs0; assumption)); exact kf_); ((first | (apply Rs.at0; assumption) | (apply Ow.rs0; assumption)); exact kf_); rintro E w1 ⟨rfl, hb⟩; have hst := xr hb; (try simp only [zA, zC, zD, zN] at hst); obtain ⟨hc, hf, hz⟩ := hst) | (go_at_call 60; apply Calls.mono; apply heldGatGate_c; ((first | (apply Rs.at0; assumption) | (apply Ow.rs0; assumption)); exact kf_); (first | assumption | omega); (first | assumption | omega); (first | assumption | omega); rintro E w1 ⟨rfl, hb⟩; have hst := xr hb; (try simp only [zA, zC, zD, zN] at hst); obtain ⟨hc, hf, hz⟩ := hst))
      go_cut [21, 22] (fun r b wx => ∃ g A' c' n', r = .pointer (some ⟨g, 0, none⟩) ∧ b = .bool (Sw.gatShow ⟨t, xs⟩ k who ro ps).2 ∧ Ex w1 wx ∧ GateAt2 wx g (Sw.gatShow ⟨t, xs⟩ k who ro ps).1.head (.slice A' n' c') ∧ OwI wx w1.heap.size A' c' n' (Sw.gatShow ⟨t, xs⟩ k who ro ps).1.done)
      case first =>
        (refine wp_name ?_; intro W0 hb0; have hst := xr hb0; (try simp only [zA, zC, zD, zN] at hst); obtain ⟨hc0, hf0, hz0⟩ := hst; go_region_held3 (fun w' => Held W0 w') ((first | with_reducible assumption | with_reducible exact Held.start _ | with_reducible exact Held.of (by assumption) | with_reducible exact Held.ex (by assumption) (by assumption) | ((repeat (first | with_reducible refine Held.set ?_ (by simp only [zA, zC, zD, zN]; omega) | with_reducible refine Held.alloc ?_ _ | with_reducible refine Held.drew ?_)); (first | with_reducible assumption | with_reducible exact Held.refl _ | with_reducible exact Held.of (by assumption) | with_reducible exact Held.ex (by assumption) (by assumption))) | exact Held.of (by exact ext_))) ((first | (go_at_call 52; apply Calls.mono; apply toGatGate_c; ((first | (apply Rs.at0; assumption) | (apply Ow.rs0; assumption)); exact kf_); (first | assumption | omega); rintro E w1 ⟨g, rfl, ho1, hge1, hlt1, hb⟩; (try simp only [zA, zC, zD, zN] at hge1); (try simp only [zA, zC, zD, zN] at hlt1); have hst := xr hb; (try simp only [zA, zC, zD, zN] at hst); obtain ⟨hc, hf, hz⟩ := hst) | (go_at_call 53; refine (toOwnRow_c _ _).mono ?_; rintro E w1 ⟨rfl, hb⟩; have hst := xr hb; (try simp only [zA, zC, zD, zN] at hst); obtain ⟨hc, hf, hz⟩ := hst) | (go_at_call 54; apply Calls.mono; apply toIntS_c; ((first | (apply Rs.at0; assumption) | (apply Ow.rs0; assumption)); exact kf_); (first | assumption | omega); rintro E w1 ⟨g, rfl, ho2, hge2, hlt2, hb⟩; (try simp only [zA, zC, zD, zN] at hge2); (try simp only [zA, zC, zD, zN] at hlt2); have hst := xr hb; (try simp only [zA, zC, zD, zN] at hst); obtain ⟨hc, hf, hz⟩ := hst) | (go_at_call 55; apply Calls.mono; apply iGatShow_c; ((first | (apply Rs.at0; assumption) | (apply Ow.rs0; assumption)); exact kf_); ((first | (apply Rs.at0; assumption) | (apply Ow.rs0; assumption)); exact kf_); rintro E w1 ⟨A', c', n', rfl, ho3, hb⟩; have hst := xr hb; (try simp only [zA, zC, zD, zN] at hst); obtain ⟨hc, hf, hz⟩ := hst))); all_goals (have hb := And.right (by assumption : Held W0 _); have hst := xr hb; (try simp only [zA, zC, zD, zN] at hst); obtain ⟨hc, hf, hz⟩ := hst))
        all_goals (go_wp2_with fail; go_meet)
        all_goals (refine ⟨_, A', c', n', rfl, rfl, ext_, ⟨(by exact sz_), ?_, ?_, ?_, ?_⟩, (ho3.keep (by (exact kf_))).less (by exact sz_)⟩)
        all_goals (simp [go_sem, *]; done)
      case rest =>
        obtain ⟨g17, A5, c5, n5, rfl, rfl, hbc5, ⟨hg17, e170, e171, e172, e173⟩, ho17⟩ := hcut
        have hst := xr hbc5; (try simp only [zA, zC, zD, zN] at hst); obtain ⟨_, _, _⟩ := hst
        go_wp2_with (first | (go_at_call 56; apply Calls.mono; apply eqGatGate_c; ((first | (apply Rs.at0; assumption) | (apply Ow.rs0; assumption)); exact kf_); ((first | (apply Rs.at0; assumption) | (apply Ow.rs0; assumption)); exact kf_); rintro E w1 ⟨rfl, hb⟩; have hst := xr hb; (try simp only [zA, zC, zD, zN] at hst); obtain ⟨hc, hf, hz⟩ := hst) | (go_at_call 60; apply Calls.mono; apply heldGatGate_c; ((first | (apply Rs.at0; assumption) | (apply Ow.rs0; assumption)); exact kf_); (first | assumption | omega); (first | assumption | omega); (first | assumption | omega); rintro E w1 ⟨rfl, hb⟩; have hst := xr hb; (try simp only [zA, zC, zD, zN] at hst); obtain ⟨hc, hf, hz⟩ := hst))
        go_ret
        exact ⟨rfl, ext_⟩
end Go.Proofs.Ytncoiknpkebgoaa

namespace Go.Proofs.Ytncoiknpkebgoaa
set_option maxRecDepth 100000
set_option linter.unusedSimpArgs false
set_option linter.unusedVariables false
open Go.ChangeShapes Go.WideShapes Go.ChangeAt Go.RowKit Go

section
variable {H : Type} {enc : TypeId × Value → H} {P : Program}
theorem trodAll_stays (hl : laidOutB P = true) {W W' : World} {sp : Nat → Bool} (hb : Below W.heap.size W W') : ∀ {ts : List TypeId} {vs : List Value} {ds : List (DataW H)} {ps : List MemPlace},
    ts.all (fun t => P.readableRec t && decide (t < P.types.size)) = true → DataW.TrodAll enc P W 0 (fun _ => true) true ts vs ds ps → (∀ x ∈ ps, x.block < W.heap.size) → (∀ x ∈ ps, sp x.block = true) →
    DataW.TrodAll enc P W' 0 sp true ts vs ds ps
  | [], [], [], _, _, h, _, _ => h
  | t :: ts, v :: vs, d :: ds, _, hr, ⟨p, q, h1, h2, e⟩, hlt, hs => by
    simp only [List.all_cons, Bool.and_eq_true, decide_eq_true_eq] at hr
    subst e
    refine ⟨p, q, ?_, trodAll_stays hl hb hr.2 h2 (fun x hx => hlt x (List.mem_append_right _ hx)) (fun x hx => hs x (List.mem_append_right _ hx)), rfl⟩
    exact WideElems.Trod_stays hl hr.1.1 hr.1.2 h1 (fun x hx => hb.same (hlt x (List.mem_append_left _ hx))) (fun x hx => hs x (List.mem_append_left _ hx))

/-- A call that returns true and turns nothing that was there is what a law's statement asks. -/
theorem law_post {f : Func} {s : ChangeSpec} {apart fresh handsOn again : Bool} {W W' : World} {args : Array Value} {ds gs : List (DataW H)} {before : List MemPlace} {tb : TypeId}
    (hl : laidOutB P = true) (hr : f.params.toList.all (fun t => P.readableRec t && decide (t < P.types.size)) = true) (hres : f.resultTypes = #[tb]) (htb : P.underlying tb = some .bool) (hv : s.vars = [])
    (hfn : (s.fn H ds).results = [.lit (.bool true)] ∧ (s.fn H ds).args = ds ∧ (s.fn H ds).vars = [])
    (hW : DataW.Whole enc P f.params.toList s.vars apart W args.toList ds gs before) (hb : Ex W W') : s.post enc P f apart fresh handsOn again W args (.bool true) W' := by
  have hW0 := hW
  have hbl := hb.below
  have hlt : ∀ p ∈ before, p.block < W.heap.size := fun p hp => by simpa using hW.lt p hp
  obtain ⟨p, q, hA, hV, he, hz, hn⟩ := hW
  rw [hv] at hV
  obtain ⟨rfl, rfl⟩ := trodVars_none hV
  rw [List.append_nil] at he
  subst he
  obtain ⟨f1, f2, f3⟩ := hfn
  have hargs : ∀ sp : Nat → Bool, (∀ x ∈ before, sp x.block = true) → DataW.TrodAll enc P W' 0 sp true f.params.toList args.toList (s.fn H (ds ++ [])).args before := fun sp hs => by
    rw [List.append_nil, f2]
    exact trodAll_stays hl hbl hr hA hlt hs
  have hvars : ∀ sp : Nat → Bool, DataW.TrodVars enc P W' sp s.vars (s.fn H (ds ++ [])).vars [] := fun sp => by
    rw [List.append_nil, f3, hv]
    rfl
  have hresu : ∀ (b : Nat) (sp : Nat → Bool) (hd : Bool), DataW.TrodAll enc P W' b sp hd f.resultTypes.toList ((Value.bool true).resultList f.resultTypes.size) (s.fn H (ds ++ [])).results [] := fun b sp hd => by
    rw [List.append_nil, f1, hres]
    exact trodAll_cons_mk (shut_bool htb _) trodAll_mk0
  have hold : ∀ p ∈ before, (fun b => decide (b < W.heap.size)) p.block = true := fun p hp => by simpa using hlt p hp
  refine ⟨ds, [], before, [], before, [], hW0, hresu _ _ _, hargs _ hold, hvars _, World.keptBut_mono (fun p hp => ⟨hp, Or.inr (by simpa using hp)⟩) (hbl.frame _), fun _ => ?_⟩
  refine ⟨ok_one (by rw [hres]) rfl (okWide_bool_mk htb _), _, _, ([] ++ before) ++ [], ⟨[] ++ before, [], trodAll_append (hargs _ (fun _ _ => rfl)) (hresu _ _ _), hvars _, rfl, ?_, ?_⟩, ?_⟩
  · intro b off hp
    have hp' : MemPlace.cell b off ∈ before := by simpa using hp
    rw [hbl.frozen (by exact hlt _ hp')]
    exact hz b off (by simpa using hp)
  · intro ha
    have := hn ha
    simpa using this
  · intro p hp _
    simpa using hp

theorem spot_of_cell {W : World} {a : Addr} {v : Value} (h : W.cell? a = some v) : a.spot = none ∧ a.block < W.heap.size := by
  unfold World.cell? at h
  split at h
  · rename_i c T fz hh
    refine ⟨?_, (Array.getElem?_eq_some_iff.1 hh).1⟩
    cases hs : a.spot with
    | none => rfl
    | some _ => rw [hs] at h; simp at h
  · cases h

theorem flat_one {α : Type} {f : α → Value} (xs : List α) : xs.flatMap (fun x => [f x]) = xs.map f := by
  induction xs with
  | nil => rfl
  | cons x xs ih => rw [List.flatMap_cons, ih]; rfl

/-- A slice of numbers that reads is one that may be read. -/
theorem ri_of_trod {W : World} {t e : TypeId} {fuel : Nat} {cs : List Value} {x : DataW H × List MemPlace} (ht : P.underlying t = some (.slice e)) (he : P.underlying e = some (.int .i64)) (hc : P.cellsOf e = 1)
    (h : DataW.trod enc P W 0 (fun _ => true) true fuel t cs = some x) : ∃ A c n xs, cs = [.slice A n c] ∧ RI W 0 A c n xs := by
  rcases open_ints ht he hc h with ⟨rfl, _⟩ | ⟨a, len, cap, zs, rfl, _, hl, hm, hz, _, hcell, _⟩
  · exact ⟨none, 0, 0, [], rfl, rfl, Rd.none_ _ _ _⟩
  · have hz' : zs.length = cap := by simpa using hz
    refine ⟨some a, cap, len, zs.take len, rfl, by rw [List.length_take]; omega, ⟨?_, hl, hm, (fun h => by cases h), fun b hb hn => ?_⟩⟩
    · show ((zs.take len).flatMap fun x => [Value.int .i64 x]).length = len * 1
      rw [flat_one, List.length_map, List.length_take]; omega
    · obtain rfl := Option.some.inj hb
      have h0 := spot_of_cell (hcell 0 (by omega))
      refine ⟨?_, Nat.zero_le _, ?_, fun j u hu => ?_⟩
      · have := h0.1
        simp only [Addr.add] at this
        split at this <;> first | exact this | contradiction | omega
      · have := h0.2
        simp only [Addr.add] at this
        split at this <;> first | exact this | contradiction | omega
      replace hu : ((zs.take len).flatMap fun x => [Value.int .i64 x])[j]? = some u := hu
      rw [flat_one, List.getElem?_map, Option.map_eq_some_iff] at hu
      obtain ⟨y, hy, rfl⟩ := hu
      rw [List.getElem?_take] at hy
      split at hy
      · have hj := (List.getElem?_eq_some_iff.1 hy).1
        have := hcell j hj
        rw [List.getD_eq_getElem?_getD, hy] at this
        obtain ⟨g, off, spot⟩ := a
        have hs : spot = none := by
          have := h0.1
          simp only [Addr.add] at this
          split at this <;> first | exact this | contradiction | omega
        subst hs
        rw [Addr.add_lit] at this
        exact this
      · cases hy

/-- A head that reads is three numbers. -/
theorem head_of_trod {W : World} {t ti : TypeId} {f0 f1 f2 : Field} {fuel : Nat} {cs : List Value} {x : DataW H × List MemPlace} (ht : P.underlying t = some (.struct #[f0, f1, f2])) (hi : P.underlying ti = some (.int .i64)) (hci : P.cellsOf ti = 1) (hct : P.cellsOf t = 3)
    (e0 : f0.type = ti ∧ f0.offset = 0) (e1 : f1.type = ti ∧ f1.offset = 1) (e2 : f2.type = ti ∧ f2.offset = 2)
    (h : DataW.trod enc P W 0 (fun _ => true) true fuel t cs = some x) : ∃ a b c : Int, cs = [.int .i64 a, .int .i64 b, .int .i64 c] := by
  obtain ⟨xs, n, _, _, hl, hxl, hf⟩ := DataW.trod_struct ht h
  rw [hct] at hl
  have key : ∀ (i : Nat) (f : Field), #[f0, f1, f2][i]? = some f → f.type = ti → ∃ a : Int, (cs.drop f.offset).take 1 = [.int .i64 a] := by
    intro i f hfi hft
    have h1 := hf i f hfi
    have hx : i < xs.length := by
      have := (Array.getElem?_eq_some_iff.1 hfi).1
      rw [hxl]; exact this
    rw [hft, hci, List.getElem?_eq_getElem hx] at h1
    obtain ⟨a, ha, _⟩ := DataW.trod_int hi h1
    exact ⟨a, ha⟩
  match cs, hl with
  | [c0, c1, c2], _ =>
    obtain ⟨a, ha⟩ := key 0 f0 rfl e0.1
    obtain ⟨b, hb⟩ := key 1 f1 rfl e1.1
    obtain ⟨c, hc⟩ := key 2 f2 rfl e2.1
    rw [e0.2] at ha
    rw [e1.2] at hb
    rw [e2.2] at hc
    simp at ha hb hc
    exact ⟨a, b, c, by rw [ha, hb, hc]⟩

/-- A gate that reads is a head and a slice of numbers. -/
theorem gate_of_trod {W : World} {t th ts ti : TypeId} {f0 f1 h0 h1 h2 : Field} {fuel : Nat} {cs : List Value} {x : DataW H × List MemPlace} (ht : P.underlying t = some (.struct #[f0, f1])) (hth : P.underlying th = some (.struct #[h0, h1, h2])) (hts : P.underlying ts = some (.slice ti)) (hi : P.underlying ti = some (.int .i64))
    (hci : P.cellsOf ti = 1) (hch : P.cellsOf th = 3) (hcs : P.cellsOf ts = 1) (hct : P.cellsOf t = 4)
    (e0 : f0.type = th ∧ f0.offset = 0) (e1 : f1.type = ts ∧ f1.offset = 3) (g0 : h0.type = ti ∧ h0.offset = 0) (g1 : h1.type = ti ∧ h1.offset = 1) (g2 : h2.type = ti ∧ h2.offset = 2)
    (h : DataW.trod enc P W 0 (fun _ => true) true fuel t cs = some x) : ∃ (a b c : Int) (A : Option Addr) (d n : Nat) (zs : List Int), cs = [.int .i64 a, .int .i64 b, .int .i64 c, .slice A n d] ∧ RI W 0 A d n zs := by
  obtain ⟨xs, n, _, _, hl, hxl, hf⟩ := DataW.trod_struct ht h
  rw [hct] at hl
  have k0 := hf 0 f0 rfl
  have k1 := hf 1 f1 rfl
  rw [e0.1, e0.2, hch, List.getElem?_eq_getElem (by rw [hxl]; exact Nat.zero_lt_succ _)] at k0
  rw [e1.1, e1.2, hcs, List.getElem?_eq_getElem (by rw [hxl]; exact Nat.one_lt_two)] at k1
  obtain ⟨a, b, c, q0⟩ := head_of_trod hth hi hci hch g0 g1 g2 k0
  obtain ⟨A, d, m, zs, q1, hr⟩ := ri_of_trod hts hi hci k1
  match cs, hl with
  | [c0, c1, c2, c3], _ =>
    simp at q0 q1
    obtain ⟨rfl, rfl, rfl⟩ := q0
    exact ⟨_, _, _, A, d, m, zs, by rw [q1], hr⟩

theorem slice_form {W : World} {base : Nat} {t e : TypeId} {v : Value} {A : Option Addr} {n c : Nat} (ht : P.underlying t = some (.slice e)) (hv : Value.okWide P W .any base t v) (h : v.cells.toList = [.slice A n c]) : v = .slice A n c := by
  unfold Value.okWide at hv
  rw [ht] at hv
  unfold Cell.okWide Cell.ok at hv
  rw [ht] at hv
  cases v <;> simp_all [Value.cells]
end
end Go.Proofs.Ytncoiknpkebgoaa

namespace Go.Proofs.Ytncoiknpkebgoaa
set_option maxRecDepth 100000
set_option linter.unusedSimpArgs false
set_option linter.unusedVariables false
open Go.ChangeShapes Go.WideShapes Go.ChangeAt Go.RowKit Go

section
variable {H : Type} {enc : TypeId × Value → H} {P : Program} {W : World}
theorem add_spot {a : Addr} (h : a.spot = none) (i : Nat) : a.add i = ⟨a.block, a.off + i, none⟩ := by
  obtain ⟨b, o, s⟩ := a
  dsimp only at h
  subst h
  exact Addr.add_lit _ _ _
/-- A slice whose elements read as things of α. -/
theorem rs_of_trod {α : Type} {ec : α → List Value} {sz : Nat} {t e : TypeId} {fuel : Nat} {cs : List Value} {x : DataW H × List MemPlace} (ht : P.underlying t = some (.slice e)) (hc : P.cellsOf e = sz) (hp : 0 < sz) (hsz : ∀ y, (ec y).length = sz)
    {Q : α → Prop} (he : ∀ n cs y, DataW.trod enc P W 0 (fun _ => true) true n e cs = some y → ∃ z : α, cs = ec z ∧ Q z) (h : DataW.trod enc P W 0 (fun _ => true) true fuel t cs = some x) :
    ∃ A c n xs, cs = [.slice A n c] ∧ Rs ec sz W 0 A c n xs ∧ ∀ y ∈ xs, Q y := by
  rcases Go.Deep.open_slice ht h with ⟨rfl, _⟩ | ⟨a, len, cap, m, n, D, Pl, rfl, _, hl, hm, hmm, hxx, hi⟩
  · exact ⟨none, 0, 0, [], rfl, ⟨rfl, Rd.none_ _ _ _⟩, by simp⟩
  · rw [if_pos rfl] at hmm
    subst hmm
    rw [hc] at hi
    have hi2 : ∀ i, i < len → ∃ z : α, Q z ∧ ∀ j, j < sz → W.cell? ((a.add (i * sz)).add j) = (ec z)[j]? := by
      intro i hil
      obtain ⟨cs', h1, h2⟩ := hi i (by omega)
      obtain ⟨z, rfl, hq⟩ := he _ _ _ h2
      exact ⟨z, hq, (World.cells?_some h1).2.2⟩
    have spot : 0 < len → a.spot = none ∧ a.block < W.heap.size := by
      intro h0
      obtain ⟨z, _, hz⟩ := hi2 0 h0
      have h1 := hz 0 hp
      rw [List.getElem?_eq_getElem (by rw [hsz]; exact hp)] at h1
      have h2 := spot_of_cell h1
      rw [Nat.zero_mul] at h2
      have e0 : ∀ b : Addr, (b.add 0).spot = none → b.spot = none := by
        intro b hb
        simp only [Addr.add] at hb
        split at hb <;> first | exact hb | contradiction | omega
      have e1 : ∀ b : Addr, (b.add 0).block = b.block := by
        intro b
        simp only [Addr.add]
        split <;> rfl
      exact ⟨e0 _ (e0 _ h2.1), by rw [e1, e1] at h2; exact h2.2⟩
    obtain ⟨xs, hlen, hxs⟩ : ∃ xs : List α, xs.length = len ∧ ∀ i z, xs[i]? = some z → Q z ∧ ∀ j, j < sz → W.cell? ((a.add (i * sz)).add j) = (ec z)[j]? := by
      clear hi spot h hl hxx
      induction len with
      | zero => exact ⟨[], rfl, by simp⟩
      | succ k ih =>
        obtain ⟨xs, h1, h2⟩ := ih (fun i hi => hi2 i (by omega))
        obtain ⟨z, hz⟩ := hi2 k (by omega)
        refine ⟨xs ++ [z], by simp [h1], fun i y hy => ?_⟩
        rw [List.getElem?_append] at hy
        split at hy
        · exact h2 i y hy
        · have : i = k := by
            have := (List.getElem?_eq_some_iff.1 hy).1
            simp at this
            omega
          subst this
          rw [h1, Nat.sub_self] at hy
          simp at hy
          subst hy
          exact hz
    refine ⟨some a, m, len, xs, rfl, ⟨hlen.symm, ⟨?_, hl, hm, (fun h => by cases h), fun b hb hn => ?_⟩⟩, fun y hy => ?_⟩
    · have key : ∀ xs : List α, (xs.flatMap ec).length = xs.length * sz := by
        intro xs
        induction xs with
        | nil => simp
        | cons x xs ih => simp only [List.flatMap_cons, List.length_append, hsz, ih, List.length_cons, Nat.succ_mul]; omega
      rw [key, hlen]
    · obtain rfl := Option.some.inj hb
      obtain ⟨s1, s2⟩ := spot hn
      refine ⟨s1, Nat.zero_le _, s2, fun j u hu => ?_⟩
      have key : ∀ xs : List α, (xs.flatMap ec).length = xs.length * sz := by
        intro xs
        induction xs with
        | nil => simp
        | cons x xs ih => simp only [List.flatMap_cons, List.length_append, hsz, ih, List.length_cons, Nat.succ_mul]; omega
      have hj := (List.getElem?_eq_some_iff.1 hu).1
      rw [key] at hj
      have hk : j / sz < xs.length := Nat.div_lt_of_lt_mul (by rw [Nat.mul_comm]; exact hj)
      have hr : j % sz < sz := Nat.mod_lt _ hp
      have hd : j / sz * sz + j % sz = j := by rw [Nat.mul_comm]; exact Nat.div_add_mod _ _
      have h1 := flat_get hsz xs (j / sz) (j % sz) hk hr
      rw [hd, hu] at h1
      have h2 := (hxs (j / sz) _ (List.getElem?_eq_getElem hk)).2 (j % sz) hr
      rw [← h1, add_spot s1, add_spot rfl] at h2
      dsimp only at h2
      rw [Nat.add_assoc, hd] at h2
      exact h2
    · obtain ⟨i, hi⟩ := List.getElem?_of_mem hy
      exact (hxs i y hi).1

def fieldsInt (fs : Array Field) (ti : TypeId) : Bool := (List.range fs.size).all fun i => match fs[i]? with
  | some f => decide (f.type = ti) && decide (f.offset = i)
  | none => false
def valInt : Value → Int
  | .int _ n => n
  | _ => 0
/-- A struct of numbers. -/
theorem ints_of_trod {t ti : TypeId} {fs : Array Field} {fuel : Nat} {cs : List Value} {x : DataW H × List MemPlace} (ht : P.underlying t = some (.struct fs)) (hi : P.underlying ti = some (.int .i64)) (hci : P.cellsOf ti = 1) (hct : P.cellsOf t = fs.size) (hf : fieldsInt fs ti = true)
    (h : DataW.trod enc P W 0 (fun _ => true) true fuel t cs = some x) : ∃ zs : List Int, zs.length = fs.size ∧ cs = zs.map (Value.int .i64) := by
  obtain ⟨xs, n, _, _, hl, hxl, hg⟩ := DataW.trod_struct ht h
  have key : ∀ i, i < fs.size → ∃ a : Int, cs[i]? = some (.int .i64 a) := by
    intro i hi'
    have h0 := List.all_eq_true.1 hf i (List.mem_range.2 hi')
    have hfi : fs[i]? = some fs[i] := Array.getElem?_eq_getElem hi'
    rw [hfi] at h0
    simp only [Bool.and_eq_true, decide_eq_true_eq] at h0
    have h1 := hg i fs[i] hfi
    rw [h0.1, h0.2, hci, List.getElem?_eq_getElem (by omega)] at h1
    obtain ⟨a, ha, _⟩ := DataW.trod_int hi h1
    refine ⟨a, ?_⟩
    rw [List.drop_eq_getElem_cons (by omega)] at ha
    simp only [List.take_succ_cons, List.take_zero, List.cons.injEq, and_true] at ha
    rw [List.getElem?_eq_getElem (by omega), ha]
  refine ⟨cs.map valInt, by simp [hl, hct], ?_⟩
  apply List.ext_getElem?
  intro i
  rw [List.getElem?_map, List.getElem?_map]
  by_cases hi' : i < fs.size
  · obtain ⟨a, ha⟩ := key i hi'
    rw [ha]; rfl
  · rw [List.getElem?_eq_none (by omega)]; rfl
/-- A field of a struct. -/
theorem field_of_trod {t : TypeId} {fs : Array Field} {fuel : Nat} {cs : List Value} {x : DataW H × List MemPlace} (ht : P.underlying t = some (.struct fs)) (h : DataW.trod enc P W 0 (fun _ => true) true fuel t cs = some x) {i : Nat} {f : Field} {ft : TypeId} {o k : Nat}
    (hf : fs[i]? = some f) (h1 : f.type = ft) (h2 : f.offset = o) (h3 : P.cellsOf ft = k) : ∃ n y, DataW.trod enc P W 0 (fun _ => true) true n ft ((cs.drop o).take k) = some y := by
  obtain ⟨xs, n, _, _, hl, hxl, hg⟩ := DataW.trod_struct ht h
  have h0 := hg i f hf
  have hi' := (Array.getElem?_eq_some_iff.1 hf).1
  rw [h1, h2, h3, List.getElem?_eq_getElem (by omega)] at h0
  exact ⟨n, _, h0⟩
theorem struct_len {t : TypeId} {fs : Array Field} {fuel : Nat} {cs : List Value} {x : DataW H × List MemPlace} (ht : P.underlying t = some (.struct fs)) (h : DataW.trod enc P W 0 (fun _ => true) true fuel t cs = some x) : cs.length = P.cellsOf t := by
  obtain ⟨xs, n, _, _, hl, hxl, hg⟩ := DataW.trod_struct ht h
  exact hl
end
end Go.Proofs.Ytncoiknpkebgoaa

namespace Go.Proofs.Ytncoiknpkebgoaa
set_option maxRecDepth 100000
set_option linter.unusedSimpArgs false
set_option linter.unusedVariables false
open Go.ChangeShapes Go.WideShapes Go.ChangeAt Go.RowKit Go
theorem own_knob : ownKnob Try.prog.godebug = none := by kernel_rfl
theorem laid_out : laidOutB Try.prog = true := by kernel_rfl
end Go.Proofs.Ytncoiknpkebgoaa

