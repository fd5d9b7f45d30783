/-
  Texts joined: DoA, DrawR, RegX, CopyK, PtrA, PtrB, Mon1, ImpD.
-/
import Derived.Test.YtimpagcanengoaaPk3
import Derived.Test.YtimpagcanengoaaPk2
import Derived.Deep.CutBlock
import Derived.Deep.DeepCutAuto
import Derived.Test.YtimpagcanengoaaPk1
import Derived.Laws.IdiomCopy
import Derived.ArgAppend
import Derived.Lib.SliceRun
import Derived.Shelf.RegionOpenPlain
import Derived.Deep.RegionLaw
import Derived.Lib.AppendZerosOnto
import Derived.Lib.Overlaps
import Derived.Laws.Externs
namespace Go.Proofs.Ytimpagcanengoaa
set_option maxRecDepth 100000
set_option linter.unusedSimpArgs false
set_option linter.unusedVariables false
open Go.RowKit Go
set_option maxHeartbeats 1000000

def isAbout (t : Int) (d : Sw.Deal) : Bool := decide (d.ticket = t)
theorem dealIx_hit (ds : List Sw.Deal) (t : Int) : Sw.dealIx ds t = hitAt (isAbout t) ds := by
  unfold Sw.dealIx Sw.dealAt hitAt
  rfl
theorem sFind_c (A : Option Addr) (c n : Nat) (ds : List Sw.Deal) (t : Int) (w : World) (hxs : RDl w 0 A c n ds) : Calls Try.prog 114 #[.slice A n c, .int .i64 t] w fun E w' => E = .returned (.int .i64 (Sw.dealIx ds t)) ∧ w = w' := by
  have hl := Lib.hid hxs.1
  have hbig := Rs.big hxs
  rw [dealIx_hit]
  go_enter Try.func114, Try.ntmps114
  go_wp2_with fail
  go_loop [5] (fun i => ∃ k : Nat, k ≤ n ∧ i = .int .i64 k ∧ ∀ j, j < k → ∀ z, ds[j]? = some z → isAbout t z = false) (fun i => n - (intOf i).toNat)
  case atStart => exact ⟨0, Nat.zero_le _, rfl, by omega⟩
  case round =>
    obtain ⟨k, hk, rfl, hrel⟩ := hrel
    have Hrel := Lib.hid hrel; clear hrel
    by_cases hlt : k < n
    · obtain ⟨g, off, y, rfl, hg0, hg, hd, hy, hc0, hc1, hc2, hc3, hc4⟩ := at_D hxs hlt
      have Hy := Lib.hid hy; clear hd hy
      cases hmx : (y.ticket == t)
      case true =>
        go_wp2_with fail
        go_ret
        exact ⟨ret_i (hitAt_here Hy.out Hrel.out (by simpa [isAbout] using hmx)).symm, rfl⟩
      case false =>
        go_wp2_with fail
        go_round
        case rel => exact ⟨k + 1, by omega, by go_num, notHit_step Hy.out Hrel.out (by simpa [isAbout] using hmx)⟩
        case measure => simp [intOf]; omega
    · go_wp2_with fail
      go_ret
      exact ⟨ret_i (hitAt_none (by have := hl.out; omega) Hrel.out).symm, rfl⟩

theorem sRows_c (aL : Option Addr) (aLc aLn : Nat) (aP : Option Addr) (aPc aPn : Nat) (aD : Option Addr) (aDc aDn : Nat) (aN : Option Addr) (aNc aNn : Nat) (aS : Option Addr) (aSc aSn : Nat) (m : Sw.Mkt) (w : World) (hL : RE w 0 aL aLc aLn m.log) : Calls Try.prog 101 #[.agg #[.slice aL aLn aLc, .slice aP aPn aPc, .slice aD aDn aDc, .int .i64 m.clock, .slice aN aNn aNc, .slice aS aSn aSc]] w fun E w' => ∃ A' c' n', E = .returned (.slice A' n' c') ∧ OwR w' w.heap.size A' c' n' (Sw.mktRows m) ∧ Ex w w' := by
  go_enter Try.func101, Try.ntmps101
  go_wp2_with (go_at_call 49; apply Calls.mono; apply sOwnFold_c; ((first | (apply Rs.at0; assumption) | (apply Ow.rs0; assumption) | (apply OwT.rs0; assumption)); exact kf_); rintro E w1 ⟨A', c', n', rfl, ho, hb⟩; have hst := xr hb; (try simp only [zA, zC, zD, zN] at hst); obtain ⟨hc, hf, hz⟩ := hst)
  go_ret
  exact ⟨_, _, _, rfl, (ho.keep (by (exact kf_))).less (by exact sz_), ext_⟩

theorem sDealOfY_c (aL : Option Addr) (aLc aLn : Nat) (aP : Option Addr) (aPc aPn : Nat) (aD : Option Addr) (aDc aDn : Nat) (aN : Option Addr) (aNc aNn : Nat) (aS : Option Addr) (aSc aSn : Nat) (m : Sw.Mkt) (t : Int) (k : Nat) (d : Sw.Deal) (w : World) (hD : RDl w 0 aD aDc aDn m.deals) (ht : Sw.dealIx m.deals t = k) (hd : m.deals[k]? = some d) : Calls Try.prog 102 #[.agg #[.slice aL aLn aLc, .slice aP aPn aPc, .slice aD aDn aDc, .int .i64 m.clock, .slice aN aNn aNc, .slice aS aSn aSc], .int .i64 t] w fun E w' => E = .returned (.tuple #[.agg #[.int .i64 d.ticket, .int .i64 d.seller, .int .i64 d.price, .int .i64 d.buyer, .int .i64 d.due], .bool true]) ∧ Ex w w' := by
  have hlt : k < aDn := by rw [hD.1]; exact (List.getElem?_eq_some_iff.1 hd).1
  obtain ⟨g, off, y, rfl, hg0, hg, hd', hy, hc0, hc1, hc2, hc3, hc4⟩ := at_D hD hlt
  obtain rfl : y = d := Option.some.inj (hy.symm.trans hd)
  have HT := Lib.hid ht
  clear hd hd' hy ht
  go_enter Try.func102, Try.ntmps102
  go_wp2_with (go_at_call 114; apply Calls.mono; apply sFind_c; (apply Rs.at0 hD; (exact kf_)); rintro E w' ⟨rfl, rfl⟩; rw [HT.out])
  refine bodyPost_ret (v := .tuple #[.agg #[.int .i64 y.ticket, .int .i64 y.seller, .int .i64 y.price, .int .i64 y.buyer, .int .i64 y.due], .bool true]) (by simp [results, Try.results102, go_sem, *]) rfl ?_
  exact ⟨rfl, ext_⟩
theorem sDealOfN_c (aL : Option Addr) (aLc aLn : Nat) (aP : Option Addr) (aPc aPn : Nat) (aD : Option Addr) (aDc aDn : Nat) (aN : Option Addr) (aNc aNn : Nat) (aS : Option Addr) (aSc aSn : Nat) (m : Sw.Mkt) (t : Int) (w : World) (hD : RDl w 0 aD aDc aDn m.deals) (ht : Sw.dealIx m.deals t = -1) : Calls Try.prog 102 #[.agg #[.slice aL aLn aLc, .slice aP aPn aPc, .slice aD aDn aDc, .int .i64 m.clock, .slice aN aNn aNc, .slice aS aSn aSc], .int .i64 t] w fun E w' => E = .returned (.tuple #[.agg #[.int .i64 0, .int .i64 0, .int .i64 0, .int .i64 0, .int .i64 0], .bool false]) ∧ Ex w w' := by
  have HT := Lib.hid ht
  clear ht
  go_enter Try.func102, Try.ntmps102
  go_wp2_with (go_at_call 114; apply Calls.mono; apply sFind_c; (apply Rs.at0 hD; (exact kf_)); rintro E w' ⟨rfl, rfl⟩; rw [HT.out])
  refine bodyPost_ret (v := .tuple #[.agg #[.int .i64 0, .int .i64 0, .int .i64 0, .int .i64 0, .int .i64 0], .bool false]) (by simp [results, Try.results102, go_sem, *]) rfl ?_
  exact ⟨rfl, ext_⟩

theorem sOut_c (A : Option Addr) (c n : Nat) (ds : List Sw.Deal) (k : Nat) (w : World) (hxs : RDl w 0 A c n ds) (hk : k < n) (hn : n ≤ 4194304) : Calls Try.prog 116 #[.slice A n c, .int .i64 k] w fun E w' => ∃ A' c', E = .returned (.slice A' (n - 1) c') ∧ OwD w' w.heap.size A' c' (n - 1) (ds.eraseIdx k) ∧ Ex w w' := by
  have hle := hxs.2.le
  have hcb := hxs.2.cap
  have s1 := hxs.take (fun _ => rfl) (k := k) (by omega)
  have s2 := hxs.drop (fun _ => rfl) (k := k + 1) (by omega)
  obtain ⟨g, off, y, rfl, hg0, hg, hd, hy, hc0, hc1, hc2, hc3, hc4⟩ := at_D hxs hk
  clear hd hy hc0 hc1 hc2 hc3 hc4
  unfold maxLen at hcb
  have wk : IntKind.i64.wrap ((k : Int) + 1) = (k : Int) + 1 := IntWalk.i64_in _ (by omega)
  have z0 : (0 : Int) ≤ (k : Int) := by omega
  have z1 : (k : Int) ≤ (n : Int) := by omega
  have z2 : (k : Int) + 1 ≤ (n : Int) := by omega
  have z3 : (0 : Int) ≤ (k : Int) + 1 := by omega
  have z4 : (k : Int) ≤ (c : Int) := by omega
  have z5 : (n : Int) ≤ (c : Int) := by omega
  have z6 : ((k : Int) + 1).toNat = k + 1 := by omega
  by_cases hck : c = k + 1
  · rw [if_pos hck] at s2
    subst hck
    obtain rfl : n = k + 1 := by omega
    have z7 : (k : Int) ≤ (k : Int) + 1 := by omega
    have s2 : Rs Sw.Deal.enc 5 w 0 (some ⟨g, off, none⟩) 0 0 [] := by
      rw [List.drop_of_length_le (by have := hxs.1; omega), Nat.sub_self] at s2
      exact s2
    clear z1 z2 z4 z5
    have z8 : (k : Int) + 1 ≤ (k : Int) + 1 := by omega
    go_enter Try.func116, Try.ntmps116
    go_wp2_with fail
    (refine wp_name ?_; intro W0 hb0; have hst := xr hb0; (try simp only [zA, zC, zD, zN] at hst); obtain ⟨hc0, hf0, hz0⟩ := hst; refine wp_region_held_drew (S := fun w' => Held W0 w') (by kernel_rfl) ?_ (fun hHeld => ?_); (focus ((try dsimp only); (first | with_reducible assumption | with_reducible exact Held.start _ | with_reducible exact Held.of (by assumption) | with_reducible exact Held.ex (by assumption) (by assumption) | ((repeat (first | with_reducible refine Held.set ?_ (by simp only [zA, zC, zD, zN]; omega) | with_reducible refine Held.alloc ?_ _ | with_reducible refine Held.drew ?_)); (first | with_reducible assumption | with_reducible exact Held.refl _ | with_reducible exact Held.of (by assumption) | with_reducible exact Held.ex (by assumption) (by assumption))) | exact Held.of (by exact ext_)))); refine regT 1 6 (v := ?_) rfl rfl (by kernel_rfl) (by kernel_rfl) (by kernel_rfl) (fun _ _ _ h => h) (by rfl) ?_ (by assumption) ?_; rotate_left; (focus (intro w hSw; (try dsimp only at hSw); go_simp; (try with_reducible rfl))); (try simp only [Act.put, List.getElem_toArray, List.getElem_cons_succ, List.getElem_cons_zero, List.setIfInBounds_toArray, List.set_cons_zero, List.set_cons_succ]); refine regT 2 7 (v := ?_) rfl rfl (by kernel_rfl) (by kernel_rfl) (by kernel_rfl) (fun _ _ _ h => h) (by rfl) ?_ (by assumption) ?_; rotate_left; (focus (intro w hSw; (try dsimp only at hSw); go_simp; (try with_reducible rfl))); (try simp only [Act.put, List.getElem_toArray, List.getElem_cons_succ, List.getElem_cons_zero, List.setIfInBounds_toArray, List.set_cons_zero, List.set_cons_succ]); refine regT 3 8 (v := ?_) rfl rfl (by kernel_rfl) (by kernel_rfl) (by kernel_rfl) (fun _ _ _ h => h) (by rfl) ?_ (by assumption) ?_; rotate_left; (focus (intro w hSw; (try dsimp only at hSw); go_simp; (try with_reducible rfl))); (try simp only [Act.put, List.getElem_toArray, List.getElem_cons_succ, List.getElem_cons_zero, List.setIfInBounds_toArray, List.set_cons_zero, List.set_cons_succ]); refine regT 5 10 (v := ?_) rfl rfl (by kernel_rfl) (by kernel_rfl) (by kernel_rfl) (fun _ _ _ h => h) (by rfl) ?_ (by assumption) ?_; rotate_left; (focus (intro w hSw; (try dsimp only at hSw); go_simp; (try with_reducible rfl))); (try simp only [Act.put, List.getElem_toArray, List.getElem_cons_succ, List.getElem_cons_zero, List.setIfInBounds_toArray, List.set_cons_zero, List.set_cons_succ]); refine regT 6 11 (v := ?_) rfl rfl (by kernel_rfl) (by kernel_rfl) (by kernel_rfl) (fun _ _ _ h => h) (by rfl) ?_ (by assumption) ?_; rotate_left; (focus (intro w hSw; (try dsimp only at hSw); go_simp; (try with_reducible rfl))); (try simp only [Act.put, List.getElem_toArray, List.getElem_cons_succ, List.getElem_cons_zero, List.setIfInBounds_toArray, List.set_cons_zero, List.set_cons_succ]); refine regT 7 12 (v := ?_) rfl rfl (by kernel_rfl) (by kernel_rfl) (by kernel_rfl) (fun _ _ _ h => h) (by rfl) ?_ (by assumption) ?_; rotate_left; (focus (intro w hSw; (try dsimp only at hSw); go_simp; (try with_reducible rfl))); (try simp only [Act.put, List.getElem_toArray, List.getElem_cons_succ, List.getElem_cons_zero, List.setIfInBounds_toArray, List.set_cons_zero, List.set_cons_succ]); refine regT 8 13 (v := ?_) rfl rfl (by kernel_rfl) (by kernel_rfl) (by kernel_rfl) (fun _ _ _ h => h) (by rfl) ?_ (by assumption) ?_; rotate_left; (focus (intro w hSw; (try dsimp only at hSw); go_simp; (try with_reducible rfl))); (try simp only [Act.put, List.getElem_toArray, List.getElem_cons_succ, List.getElem_cons_zero, List.setIfInBounds_toArray, List.set_cons_zero, List.set_cons_succ]); refine wpAnyH_ready (rs := [0]) (by kernel_rfl) (by simp) ?_; refine AllReadyH.cons rfl (fun K hK => ?_) ?_; rotate_left; (focus exact AllReadyH.nil); go_simp; refine hK.out _ _ ?_ (fun hHeld => ?_); (focus ((try dsimp only); (first | with_reducible assumption | with_reducible exact Held.start _ | with_reducible exact Held.of (by assumption) | with_reducible exact Held.ex (by assumption) (by assumption) | ((repeat (first | with_reducible refine Held.set ?_ (by simp only [zA, zC, zD, zN]; omega) | with_reducible refine Held.alloc ?_ _ | with_reducible refine Held.drew ?_)); (first | with_reducible assumption | with_reducible exact Held.refl _ | with_reducible exact Held.of (by assumption) | with_reducible exact Held.ex (by assumption) (by assumption))) | exact Held.of (by exact ext_)))); clear hK K; (try simp only [Act.put, List.getElem_toArray, List.getElem_cons_succ, List.getElem_cons_zero, List.setIfInBounds_toArray, List.set_cons_zero, List.set_cons_succ]); refine wpAnyH_ready (rs := [4]) (by kernel_rfl) (by simp) ?_; refine AllReadyH.cons rfl (fun K hK => ?_) ?_; rotate_left; (focus exact AllReadyH.nil); (first | (apply step_app (lo := W0.heap.size) el_D one_D rfl rfl rfl rfl; (first | assumption | exact Ow.nil _ _ | (apply Ow.keep; assumption; exact kf_) | (refine Ow.new [] (by (first | rfl | (simp only [zA, zC, zD, zN]; done) | omega)) rfl rfl (fun _ => rfl) (by exact sz_) (by omega))); (apply Rs.at0 s1; exact kf_); omega; (first | exact Nat.le_refl _ | exact sz_); intro A1 c1 w2 ho1 hch1 hat1 hex1 hlow1; have hbx := hex1 (fun _ => False) W0 (And.right (by assumption : Held W0 _)) (Nat.le_refl _); have hz1 := hbx.size; clear hex1 hlow1) | (apply step_app (lo := W0.heap.size) el_D one_D rfl rfl rfl rfl; (first | assumption | exact Ow.nil _ _ | (apply Ow.keep; assumption; exact kf_) | (refine Ow.new [] (by (first | rfl | (simp only [zA, zC, zD, zN]; done) | omega)) rfl rfl (fun _ => rfl) (by exact sz_) (by omega))); (apply Rs.at0 s2; exact kf_); omega; (first | exact Nat.le_refl _ | exact sz_); intro A1 c1 w2 ho1 hch1 hat1 hex1 hlow1; have hbx := hex1 (fun _ => False) W0 (And.right (by assumption : Held W0 _)) (Nat.le_refl _); have hz1 := hbx.size; clear hex1 hlow1)); (try simp only [Act.put, List.getElem_toArray, List.getElem_cons_succ, List.getElem_cons_zero, List.setIfInBounds_toArray, List.set_cons_zero, List.set_cons_succ]); refine hK.out _ _ ?_ (fun hHeld => ?_); (focus ((try dsimp only); (first | with_reducible assumption | with_reducible exact Held.start _ | with_reducible exact Held.of (by assumption) | with_reducible exact Held.ex (by assumption) (by assumption) | ((repeat (first | with_reducible refine Held.set ?_ (by simp only [zA, zC, zD, zN]; omega) | with_reducible refine Held.alloc ?_ _ | with_reducible refine Held.drew ?_)); (first | with_reducible assumption | with_reducible exact Held.refl _ | with_reducible exact Held.of (by assumption) | with_reducible exact Held.ex (by assumption) (by assumption))) | exact Held.of (by exact ext_)))); clear hK K; (try simp only [Act.put, List.getElem_toArray, List.getElem_cons_succ, List.getElem_cons_zero, List.setIfInBounds_toArray, List.set_cons_zero, List.set_cons_succ]); refine wpAnyH_ready (rs := [9]) (by kernel_rfl) (by simp) ?_; refine AllReadyH.cons rfl (fun K hK => ?_) ?_; rotate_left; (focus exact AllReadyH.nil); (first | (apply step_app (lo := W0.heap.size) el_D one_D rfl rfl rfl rfl; (first | assumption | exact Ow.nil _ _ | (apply Ow.keep; assumption; exact kf_) | (refine Ow.new [] (by (first | rfl | (simp only [zA, zC, zD, zN]; done) | omega)) rfl rfl (fun _ => rfl) (by exact sz_) (by omega))); (apply Rs.at0 s1; exact kf_); omega; (first | exact Nat.le_refl _ | exact sz_); intro A1 c1 w2 ho1 hch1 hat1 hex1 hlow1; have hbx := hex1 (fun _ => False) W0 (And.right (by assumption : Held W0 _)) (Nat.le_refl _); have hz1 := hbx.size; clear hex1 hlow1) | (apply step_app (lo := W0.heap.size) el_D one_D rfl rfl rfl rfl; (first | assumption | exact Ow.nil _ _ | (apply Ow.keep; assumption; exact kf_) | (refine Ow.new [] (by (first | rfl | (simp only [zA, zC, zD, zN]; done) | omega)) rfl rfl (fun _ => rfl) (by exact sz_) (by omega))); (apply Rs.at0 s2; exact kf_); omega; (first | exact Nat.le_refl _ | exact sz_); intro A1 c1 w2 ho1 hch1 hat1 hex1 hlow1; have hbx := hex1 (fun _ => False) W0 (And.right (by assumption : Held W0 _)) (Nat.le_refl _); have hz1 := hbx.size; clear hex1 hlow1)); (try simp only [Act.put, List.getElem_toArray, List.getElem_cons_succ, List.getElem_cons_zero, List.setIfInBounds_toArray, List.set_cons_zero, List.set_cons_succ]); refine hK.out _ _ ?_ (fun hHeld => ?_); (focus ((try dsimp only); (first | with_reducible assumption | with_reducible exact Held.start _ | with_reducible exact Held.of (by assumption) | with_reducible exact Held.ex (by assumption) (by assumption) | ((repeat (first | with_reducible refine Held.set ?_ (by simp only [zA, zC, zD, zN]; omega) | with_reducible refine Held.alloc ?_ _ | with_reducible refine Held.drew ?_)); (first | with_reducible assumption | with_reducible exact Held.refl _ | with_reducible exact Held.of (by assumption) | with_reducible exact Held.ex (by assumption) (by assumption))) | exact Held.of (by exact ext_)))); clear hK K; (try simp only [Act.put, List.getElem_toArray, List.getElem_cons_succ, List.getElem_cons_zero, List.setIfInBounds_toArray, List.set_cons_zero, List.set_cons_succ]); refine regT 10 4 (v := ?_) rfl rfl (by kernel_rfl) (by kernel_rfl) (by kernel_rfl) (fun _ _ _ h => h) (by rfl) ?_ (by assumption) ?_; rotate_left; (focus (intro w hSw; (try dsimp only at hSw); go_simp; (try with_reducible rfl))); (try simp only [Act.put, List.getElem_toArray, List.getElem_cons_succ, List.getElem_cons_zero, List.setIfInBounds_toArray, List.set_cons_zero, List.set_cons_succ]); refine wpAnyH_done (by kernel_rfl) ?_ _; all_goals (have hb := And.right (by assumption : Held W0 _); have hst := xr hb; (try simp only [zA, zC, zD, zN] at hst); obtain ⟨hc, hf, hz⟩ := hst))
    go_wp2_with fail
    go_ret
    rw [List.nil_append, List.append_nil, Nat.zero_add, Nat.add_zero] at ho1
    refine ⟨_, _, by rfl, ?_, ext_⟩
    rw [List.eraseIdx_eq_take_drop_succ, List.drop_of_length_le (by have := hxs.1; omega), List.append_nil]
    exact ho1.less hz0
  · rw [if_neg hck] at s2
    go_enter Try.func116, Try.ntmps116
    go_wp2_with fail
    (refine wp_name ?_; intro W0 hb0; have hst := xr hb0; (try simp only [zA, zC, zD, zN] at hst); obtain ⟨hc0, hf0, hz0⟩ := hst; refine wp_region_held_drew (S := fun w' => Held W0 w') (by kernel_rfl) ?_ (fun hHeld => ?_); (focus ((try dsimp only); (first | with_reducible assumption | with_reducible exact Held.start _ | with_reducible exact Held.of (by assumption) | with_reducible exact Held.ex (by assumption) (by assumption) | ((repeat (first | with_reducible refine Held.set ?_ (by simp only [zA, zC, zD, zN]; omega) | with_reducible refine Held.alloc ?_ _ | with_reducible refine Held.drew ?_)); (first | with_reducible assumption | with_reducible exact Held.refl _ | with_reducible exact Held.of (by assumption) | with_reducible exact Held.ex (by assumption) (by assumption))) | exact Held.of (by exact ext_)))); refine regT 1 6 (v := ?_) rfl rfl (by kernel_rfl) (by kernel_rfl) (by kernel_rfl) (fun _ _ _ h => h) (by rfl) ?_ (by assumption) ?_; rotate_left; (focus (intro w hSw; (try dsimp only at hSw); go_simp; (try with_reducible rfl))); (try simp only [Act.put, List.getElem_toArray, List.getElem_cons_succ, List.getElem_cons_zero, List.setIfInBounds_toArray, List.set_cons_zero, List.set_cons_succ]); refine regT 2 7 (v := ?_) rfl rfl (by kernel_rfl) (by kernel_rfl) (by kernel_rfl) (fun _ _ _ h => h) (by rfl) ?_ (by assumption) ?_; rotate_left; (focus (intro w hSw; (try dsimp only at hSw); go_simp; (try with_reducible rfl))); (try simp only [Act.put, List.getElem_toArray, List.getElem_cons_succ, List.getElem_cons_zero, List.setIfInBounds_toArray, List.set_cons_zero, List.set_cons_succ]); refine regT 3 8 (v := ?_) rfl rfl (by kernel_rfl) (by kernel_rfl) (by kernel_rfl) (fun _ _ _ h => h) (by rfl) ?_ (by assumption) ?_; rotate_left; (focus (intro w hSw; (try dsimp only at hSw); go_simp; (try with_reducible rfl))); (try simp only [Act.put, List.getElem_toArray, List.getElem_cons_succ, List.getElem_cons_zero, List.setIfInBounds_toArray, List.set_cons_zero, List.set_cons_succ]); refine regT 5 10 (v := ?_) rfl rfl (by kernel_rfl) (by kernel_rfl) (by kernel_rfl) (fun _ _ _ h => h) (by rfl) ?_ (by assumption) ?_; rotate_left; (focus (intro w hSw; (try dsimp only at hSw); go_simp; (try with_reducible rfl))); (try simp only [Act.put, List.getElem_toArray, List.getElem_cons_succ, List.getElem_cons_zero, List.setIfInBounds_toArray, List.set_cons_zero, List.set_cons_succ]); refine regT 6 11 (v := ?_) rfl rfl (by kernel_rfl) (by kernel_rfl) (by kernel_rfl) (fun _ _ _ h => h) (by rfl) ?_ (by assumption) ?_; rotate_left; (focus (intro w hSw; (try dsimp only at hSw); go_simp; (try with_reducible rfl))); (try simp only [Act.put, List.getElem_toArray, List.getElem_cons_succ, List.getElem_cons_zero, List.setIfInBounds_toArray, List.set_cons_zero, List.set_cons_succ]); refine regT 7 12 (v := ?_) rfl rfl (by kernel_rfl) (by kernel_rfl) (by kernel_rfl) (fun _ _ _ h => h) (by rfl) ?_ (by assumption) ?_; rotate_left; (focus (intro w hSw; (try dsimp only at hSw); go_simp; (try with_reducible rfl))); (try simp only [Act.put, List.getElem_toArray, List.getElem_cons_succ, List.getElem_cons_zero, List.setIfInBounds_toArray, List.set_cons_zero, List.set_cons_succ]); refine regT 8 13 (v := ?_) rfl rfl (by kernel_rfl) (by kernel_rfl) (by kernel_rfl) (fun _ _ _ h => h) (by rfl) ?_ (by assumption) ?_; rotate_left; (focus (intro w hSw; (try dsimp only at hSw); go_simp; (try with_reducible rfl))); (try simp only [Act.put, List.getElem_toArray, List.getElem_cons_succ, List.getElem_cons_zero, List.setIfInBounds_toArray, List.set_cons_zero, List.set_cons_succ]); refine wpAnyH_ready (rs := [0]) (by kernel_rfl) (by simp) ?_; refine AllReadyH.cons rfl (fun K hK => ?_) ?_; rotate_left; (focus exact AllReadyH.nil); go_simp; refine hK.out _ _ ?_ (fun hHeld => ?_); (focus ((try dsimp only); (first | with_reducible assumption | with_reducible exact Held.start _ | with_reducible exact Held.of (by assumption) | with_reducible exact Held.ex (by assumption) (by assumption) | ((repeat (first | with_reducible refine Held.set ?_ (by simp only [zA, zC, zD, zN]; omega) | with_reducible refine Held.alloc ?_ _ | with_reducible refine Held.drew ?_)); (first | with_reducible assumption | with_reducible exact Held.refl _ | with_reducible exact Held.of (by assumption) | with_reducible exact Held.ex (by assumption) (by assumption))) | exact Held.of (by exact ext_)))); clear hK K; (try simp only [Act.put, List.getElem_toArray, List.getElem_cons_succ, List.getElem_cons_zero, List.setIfInBounds_toArray, List.set_cons_zero, List.set_cons_succ]); refine wpAnyH_ready (rs := [4]) (by kernel_rfl) (by simp) ?_; refine AllReadyH.cons rfl (fun K hK => ?_) ?_; rotate_left; (focus exact AllReadyH.nil); (first | (apply step_app (lo := W0.heap.size) el_D one_D rfl rfl rfl rfl; (first | assumption | exact Ow.nil _ _ | (apply Ow.keep; assumption; exact kf_) | (refine Ow.new [] (by (first | rfl | (simp only [zA, zC, zD, zN]; done) | omega)) rfl rfl (fun _ => rfl) (by exact sz_) (by omega))); (apply Rs.at0 s1; exact kf_); omega; (first | exact Nat.le_refl _ | exact sz_); intro A1 c1 w2 ho1 hch1 hat1 hex1 hlow1; have hbx := hex1 (fun _ => False) W0 (And.right (by assumption : Held W0 _)) (Nat.le_refl _); have hz1 := hbx.size; clear hex1 hlow1) | (apply step_app (lo := W0.heap.size) el_D one_D rfl rfl rfl rfl; (first | assumption | exact Ow.nil _ _ | (apply Ow.keep; assumption; exact kf_) | (refine Ow.new [] (by (first | rfl | (simp only [zA, zC, zD, zN]; done) | omega)) rfl rfl (fun _ => rfl) (by exact sz_) (by omega))); (apply Rs.at0 s2; exact kf_); omega; (first | exact Nat.le_refl _ | exact sz_); intro A1 c1 w2 ho1 hch1 hat1 hex1 hlow1; have hbx := hex1 (fun _ => False) W0 (And.right (by assumption : Held W0 _)) (Nat.le_refl _); have hz1 := hbx.size; clear hex1 hlow1)); (try simp only [Act.put, List.getElem_toArray, List.getElem_cons_succ, List.getElem_cons_zero, List.setIfInBounds_toArray, List.set_cons_zero, List.set_cons_succ]); refine hK.out _ _ ?_ (fun hHeld => ?_); (focus ((try dsimp only); (first | with_reducible assumption | with_reducible exact Held.start _ | with_reducible exact Held.of (by assumption) | with_reducible exact Held.ex (by assumption) (by assumption) | ((repeat (first | with_reducible refine Held.set ?_ (by simp only [zA, zC, zD, zN]; omega) | with_reducible refine Held.alloc ?_ _ | with_reducible refine Held.drew ?_)); (first | with_reducible assumption | with_reducible exact Held.refl _ | with_reducible exact Held.of (by assumption) | with_reducible exact Held.ex (by assumption) (by assumption))) | exact Held.of (by exact ext_)))); clear hK K; (try simp only [Act.put, List.getElem_toArray, List.getElem_cons_succ, List.getElem_cons_zero, List.setIfInBounds_toArray, List.set_cons_zero, List.set_cons_succ]); refine wpAnyH_ready (rs := [9]) (by kernel_rfl) (by simp) ?_; refine AllReadyH.cons rfl (fun K hK => ?_) ?_; rotate_left; (focus exact AllReadyH.nil); (first | (apply step_app (lo := W0.heap.size) el_D one_D rfl rfl rfl rfl; (first | assumption | exact Ow.nil _ _ | (apply Ow.keep; assumption; exact kf_) | (refine Ow.new [] (by (first | rfl | (simp only [zA, zC, zD, zN]; done) | omega)) rfl rfl (fun _ => rfl) (by exact sz_) (by omega))); (apply Rs.at0 s1; exact kf_); omega; (first | exact Nat.le_refl _ | exact sz_); intro A1 c1 w2 ho1 hch1 hat1 hex1 hlow1; have hbx := hex1 (fun _ => False) W0 (And.right (by assumption : Held W0 _)) (Nat.le_refl _); have hz1 := hbx.size; clear hex1 hlow1) | (apply step_app (lo := W0.heap.size) el_D one_D rfl rfl rfl rfl; (first | assumption | exact Ow.nil _ _ | (apply Ow.keep; assumption; exact kf_) | (refine Ow.new [] (by (first | rfl | (simp only [zA, zC, zD, zN]; done) | omega)) rfl rfl (fun _ => rfl) (by exact sz_) (by omega))); (apply Rs.at0 s2; exact kf_); omega; (first | exact Nat.le_refl _ | exact sz_); intro A1 c1 w2 ho1 hch1 hat1 hex1 hlow1; have hbx := hex1 (fun _ => False) W0 (And.right (by assumption : Held W0 _)) (Nat.le_refl _); have hz1 := hbx.size; clear hex1 hlow1)); (try simp only [Act.put, List.getElem_toArray, List.getElem_cons_succ, List.getElem_cons_zero, List.setIfInBounds_toArray, List.set_cons_zero, List.set_cons_succ]); refine hK.out _ _ ?_ (fun hHeld => ?_); (focus ((try dsimp only); (first | with_reducible assumption | with_reducible exact Held.start _ | with_reducible exact Held.of (by assumption) | with_reducible exact Held.ex (by assumption) (by assumption) | ((repeat (first | with_reducible refine Held.set ?_ (by simp only [zA, zC, zD, zN]; omega) | with_reducible refine Held.alloc ?_ _ | with_reducible refine Held.drew ?_)); (first | with_reducible assumption | with_reducible exact Held.refl _ | with_reducible exact Held.of (by assumption) | with_reducible exact Held.ex (by assumption) (by assumption))) | exact Held.of (by exact ext_)))); clear hK K; (try simp only [Act.put, List.getElem_toArray, List.getElem_cons_succ, List.getElem_cons_zero, List.setIfInBounds_toArray, List.set_cons_zero, List.set_cons_succ]); refine regT 10 4 (v := ?_) rfl rfl (by kernel_rfl) (by kernel_rfl) (by kernel_rfl) (fun _ _ _ h => h) (by rfl) ?_ (by assumption) ?_; rotate_left; (focus (intro w hSw; (try dsimp only at hSw); go_simp; (try with_reducible rfl))); (try simp only [Act.put, List.getElem_toArray, List.getElem_cons_succ, List.getElem_cons_zero, List.setIfInBounds_toArray, List.set_cons_zero, List.set_cons_succ]); refine wpAnyH_done (by kernel_rfl) ?_ _; all_goals (have hb := And.right (by assumption : Held W0 _); have hst := xr hb; (try simp only [zA, zC, zD, zN] at hst); obtain ⟨hc, hf, hz⟩ := hst))
    go_wp2_with fail
    go_ret
    rw [List.nil_append, ← List.eraseIdx_eq_take_drop_succ, Nat.zero_add, show k + (n - (k + 1)) = n - 1 from by omega] at ho1
    refine ⟨A1, c1, ?_, ho1.less hz0, ext_⟩
    rw [show k + (n - (k + 1)) = n - 1 from by omega]
    rfl
theorem insertDeal_step (d y : Sw.Deal) (r : List Sw.Deal) : Sw.insertDeal d (y :: r) = if d.ticket < y.ticket then d :: y :: r else y :: Sw.insertDeal d r := by rw [Sw.insertDeal]
theorem sPut_c (A : Option Addr) (c n : Nat) (ds : List Sw.Deal) (d : Sw.Deal) (w : World) (hxs : RDl w 0 A c n ds) (hn : n ≤ 4194304) : Calls Try.prog 117 #[.slice A n c, .agg #[.int .i64 d.ticket, .int .i64 d.seller, .int .i64 d.price, .int .i64 d.buyer, .int .i64 d.due]] w fun E w' => ∃ A' c', E = .returned (.slice A' (n + 1) c') ∧ OwD w' w.heap.size A' c' (n + 1) (Sw.insertDeal d ds) ∧ Ex w w' := by
  have hl := Lib.hid hxs.1
  go_enter Try.func117, Try.ntmps117
  go_wp2_with fail
  go_loopw [5, 6, 7] (fun o f i wr => ∃ (k : Nat) (dn : Bool) (B : Option Addr) (e : Nat) (m : Nat) (es : List Sw.Deal), k ≤ n ∧ i = .int .i64 k ∧ f = .bool dn ∧ o = .slice B m e ∧ (m = k + if dn then 1 else 0) ∧ Ex (w.alloc (.cells #[.int .i64 d.ticket, .int .i64 d.seller, .int .i64 d.price, .int .i64 d.buyer, .int .i64 d.due] 38)) wr ∧ OwD wr (w.heap.size + 1) B e m es ∧
    Sw.insertDeal d ds = (if dn then es ++ ds.drop k else es ++ Sw.insertDeal d (ds.drop k))) (fun _ _ i _ => n - (intOf i).toNat)
  case atStart =>
    exact ⟨0, false, some ⟨w.heap.size + 1, 0, none⟩, 0, 0, [], Nat.zero_le _, rfl, rfl, rfl, rfl, ext_, Ow.new [] (by simp) rfl rfl (fun _ => rfl) (Nat.le_refl _) (by omega), by simp⟩
  case round =>
    obtain ⟨k, dn, B, e, m, es, hk, rfl, rfl, rfl, hm, hb, ho, heq⟩ := hrel
    have hst := Ex.rules hb rfl
    (try simp only [zA, zC, zD] at hst)
    obtain ⟨hc, hf, hz⟩ := hst
    have HE := Lib.hid heq; clear heq
    have HM := Lib.hid hm
    have hmn : m ≤ n + 1 := by rw [hm]; split <;> omega
    clear hm
    by_cases hlt : k < n
    · obtain ⟨g, off, y, rfl, hg0, hg, hd, hy, hc0, hc1, hc2, hc3, hc4⟩ := at_D hxs hlt
      have HD := Lib.hid hd; clear hd hy
      cases dn
      case true =>
        go_wp2_with fail
        (go_quiet ((first | fail)); all_goals (generalize hWq : World.drewN _ nq = W0; have hb0 := Ex.ofN hWq; clear hWq; have hst := xr hb0; (try simp only [zA, zC, zD, zN] at hst); obtain ⟨hc0, hf0, hz0⟩ := hst))
        go_wp2_with (at_builtin; apply wpList_app (lo := w.heap.size + 1) el_D one_D rfl rfl rfl rfl; (first | assumption | exact Ow.nil _ _ | (apply Ow.keep; assumption; exact kf_) | (refine Ow.new [] (by (first | rfl | (simp only [zA, zC, zD, zN]; done) | omega)) rfl rfl (fun _ => rfl) (by exact sz_) (by omega))); (first | (refine Rs.new [y] (by (first | rfl | (simp only [zA, zC, zD, zN]; done) | omega)) rfl rfl (fun _ => rfl) (by omega))); omega; exact sz_; intro A1 c1 w2 ho1 hch1 hat1 hex1 hlow1; have hb := hex1 (fun _ => False) (w.alloc (.cells #[.int .i64 d.ticket, .int .i64 d.seller, .int .i64 d.price, .int .i64 d.buyer, .int .i64 d.due] 38)) (by exact ext_) (by exact sz_); have hz := hch1.size; (try simp only [zA, zC, zD, zN] at hz); obtain ⟨hc, hf⟩ := low_rules hlow1; clear hlow1 hex1)
        go_roundw
        case rel => exact ⟨k + 1, true, A1, c1, m + 1, es ++ [y], by omega, by go_num, rfl, rfl, by have := HM.out; simp at this ⊢; omega, hb, ho1, by rw [HE.out, HD.out]; simp⟩
        case measure => simp [intOf]; omega
      case false =>
        have HI := Lib.hid (insertDeal_step d y (ds.drop (k + 1)))
        by_cases hcmp : d.ticket < y.ticket
        · go_wp2_with fail
          (go_quiet ((first | fail)); all_goals (generalize hWq : World.drewN _ nq = W0; have hb0 := Ex.ofN hWq; clear hWq; have hst := xr hb0; (try simp only [zA, zC, zD, zN] at hst); obtain ⟨hc0, hf0, hz0⟩ := hst))
          go_wp2_with (first | (at_builtin; apply wpList_app (lo := w.heap.size + 1) el_D one_D rfl rfl rfl rfl; (first | assumption | exact Ow.nil _ _ | (apply Ow.keep; assumption; exact kf_) | (refine Ow.new [] (by (first | rfl | (simp only [zA, zC, zD, zN]; done) | omega)) rfl rfl (fun _ => rfl) (by exact sz_) (by omega))); (first | (refine Rs.new [d] (by (first | rfl | (simp only [zA, zC, zD, zN]; done) | omega)) rfl rfl (fun _ => rfl) (by omega))); omega; exact sz_; intro A1 c1 w2 ho1 hch1 hat1 hex1 hlow1; have hb := hex1 (fun _ => False) (w.alloc (.cells #[.int .i64 d.ticket, .int .i64 d.seller, .int .i64 d.price, .int .i64 d.buyer, .int .i64 d.due] 38)) (by exact ext_) (by exact sz_); have hz := hch1.size; (try simp only [zA, zC, zD, zN] at hz); obtain ⟨hc, hf⟩ := low_rules hlow1; clear hlow1 hex1) | (at_builtin; apply wpList_app (lo := w.heap.size + 1) el_D one_D rfl rfl rfl rfl; (first | assumption | exact Ow.nil _ _ | (apply Ow.keep; assumption; exact kf_) | (refine Ow.new [] (by (first | rfl | (simp only [zA, zC, zD, zN]; done) | omega)) rfl rfl (fun _ => rfl) (by exact sz_) (by omega))); (first | (refine Rs.new [y] (by (first | rfl | (simp only [zA, zC, zD, zN]; done) | omega)) rfl rfl (fun _ => rfl) (by omega))); omega; exact sz_; intro A1 c1 w2 ho1 hch1 hat1 hex1 hlow1; have hb := hex1 (fun _ => False) (w.alloc (.cells #[.int .i64 d.ticket, .int .i64 d.seller, .int .i64 d.price, .int .i64 d.buyer, .int .i64 d.due] 38)) (by exact ext_) (by exact sz_); have hz := hch1.size; (try simp only [zA, zC, zD, zN] at hz); obtain ⟨hc, hf⟩ := low_rules hlow1; clear hlow1 hex1))
          go_roundw
          case rel => exact ⟨k + 1, true, A1, c1, m + 1 + 1, es ++ [d] ++ [y], by omega, by go_num, rfl, rfl, by have := HM.out; simp at this ⊢; omega, hb, ho1, by rw [HE.out, HD.out, HI.out]; simp [hcmp]⟩
          case measure => simp [intOf]; omega
        · have HC := Lib.hid hcmp
          go_wp2_with fail
          (go_quiet ((first | fail)); all_goals (generalize hWq : World.drewN _ nq = W0; have hb0 := Ex.ofN hWq; clear hWq; have hst := xr hb0; (try simp only [zA, zC, zD, zN] at hst); obtain ⟨hc0, hf0, hz0⟩ := hst))
          go_wp2_with (at_builtin; apply wpList_app (lo := w.heap.size + 1) el_D one_D rfl rfl rfl rfl; (first | assumption | exact Ow.nil _ _ | (apply Ow.keep; assumption; exact kf_) | (refine Ow.new [] (by (first | rfl | (simp only [zA, zC, zD, zN]; done) | omega)) rfl rfl (fun _ => rfl) (by exact sz_) (by omega))); (first | (refine Rs.new [y] (by (first | rfl | (simp only [zA, zC, zD, zN]; done) | omega)) rfl rfl (fun _ => rfl) (by omega))); omega; exact sz_; intro A1 c1 w2 ho1 hch1 hat1 hex1 hlow1; have hb := hex1 (fun _ => False) (w.alloc (.cells #[.int .i64 d.ticket, .int .i64 d.seller, .int .i64 d.price, .int .i64 d.buyer, .int .i64 d.due] 38)) (by exact ext_) (by exact sz_); have hz := hch1.size; (try simp only [zA, zC, zD, zN] at hz); obtain ⟨hc, hf⟩ := low_rules hlow1; clear hlow1 hex1)
          go_roundw
          case rel => exact ⟨k + 1, false, A1, c1, m + 1, es ++ [y], by omega, by go_num, rfl, rfl, by have := HM.out; simp at this ⊢; omega, hb, ho1, by rw [HE.out, HD.out, HI.out]; have := HC.out; simp [show ¬ d.ticket < y.ticket from by omega]⟩
          case measure => simp [intOf]; omega
    · obtain rfl : k = n := by omega
      cases dn
      all_goals go_wp2_with (at_builtin; apply wpList_app (lo := w.heap.size + 1) el_D one_D rfl rfl rfl rfl; (first | assumption | exact Ow.nil _ _ | (apply Ow.keep; assumption; exact kf_) | (refine Ow.new [] (by (first | rfl | (simp only [zA, zC, zD, zN]; done) | omega)) rfl rfl (fun _ => rfl) (by exact sz_) (by omega))); (first | (refine Rs.new [d] (by (first | rfl | (simp only [zA, zC, zD, zN]; done) | omega)) rfl rfl (fun _ => rfl) (by omega))); omega; exact sz_; intro A1 c1 w2 ho1 hch1 hat1 hex1 hlow1; have hb := hex1 (fun _ => False) (w.alloc (.cells #[.int .i64 d.ticket, .int .i64 d.seller, .int .i64 d.price, .int .i64 d.buyer, .int .i64 d.due] 38)) (by exact ext_) (by exact sz_); have hz := hch1.size; (try simp only [zA, zC, zD, zN] at hz); obtain ⟨hc, hf⟩ := low_rules hlow1; clear hlow1 hex1)
      all_goals go_ret
      · have hmk : m + 1 = k + 1 := by have := HM.out; simp at this; omega
        rw [hmk] at ho1 ⊢
        refine ⟨A1, c1, rfl, ?_, ext_⟩
        rw [HE.out, List.drop_of_length_le (by have := hl.out; omega)]
        exact ho1.less (by omega)
      · have hmk : m = k + 1 := by have := HM.out; simp at this; omega
        rw [hmk] at ho ⊢
        refine ⟨B, e, rfl, ?_, ext_⟩
        rw [HE.out, List.drop_of_length_le (by have := hl.out; omega)]
        simp
        exact ho.less (by omega)
end Go.Proofs.Ytimpagcanengoaa

namespace Go.Proofs.Ytimpagcanengoaa
set_option maxRecDepth 100000
set_option linter.unusedSimpArgs false
set_option linter.unusedVariables false
open Go.RowKit Go
set_option maxHeartbeats 4000000

/-- A market that is ok, of a reader's world: its slices lie behind the reader. -/
theorem sDealOfA_c (aL : Option Addr) (aLc aLn : Nat) (aP : Option Addr) (aPc aPn : Nat) (aD : Option Addr) (aDc aDn : Nat) (aN : Option Addr) (aNc aNn : Nat) (aS : Option Addr) (aSc aSn : Nat) (m : Sw.Mkt) (rows : List Sw.Row) (t : Int) (w : World) (hD : RDl w 0 aD aDc aDn m.deals) (hok : Sw.MOk m rows) : Calls Try.prog 102 #[.agg #[.slice aL aLn aLc, .slice aP aPn aPc, .slice aD aDn aDc, .int .i64 m.clock, .slice aN aNn aNc, .slice aS aSn aSc], .int .i64 t] w fun E w' =>
    ∃ (p q r s u : Int) (b : Bool), E = .returned (.tuple #[.agg #[.int .i64 p, .int .i64 q, .int .i64 r, .int .i64 s, .int .i64 u], .bool b]) ∧ (b = true → 1 ≤ q ∧ q ≤ 5) ∧ Ex w w' := by
  cases h : Sw.dealAt m.deals t with
  | none =>
    refine (sDealOfN_c aL aLc aLn aP aPc aPn aD aDc aDn aN aNc aNn aS aSc aSn m t w hD (by unfold Sw.dealIx; rw [h])).mono ?_
    rintro E w' ⟨rfl, hb⟩
    exact ⟨_, _, _, _, _, _, rfl, fun h => (by cases h), hb⟩
  | some k =>
    obtain ⟨d, hd, _⟩ := Sw.dealAt_some h
    refine (sDealOfY_c aL aLc aLn aP aPc aPn aD aDc aDn aN aNc aNn aS aSc aSn m t k d w hD (by unfold Sw.dealIx; rw [h]) hd).mono ?_
    rintro E w' ⟨rfl, hb⟩
    have := (Sw.dealOk_iff.1 (hok.deals.get hd)).2.1
    exact ⟨_, _, _, _, _, _, rfl, fun _ => this, hb⟩
theorem MktAt.blk {w w' : World} {g o : Nat} {aL : Option Addr} {aLc aLn : Nat} {aP : Option Addr} {aPc aPn : Nat} {aD : Option Addr} {aDc aDn : Nat} {aN : Option Addr} {aNc aNn : Nat} {aS : Option Addr} {aSc aSn : Nat} {clock : Int} (h : MktAt w g o aL aLc aLn aP aPc aPn aD aDc aDn aN aNc aNn aS aSc aSn clock) (hb : w'.heap[g]? = w.heap[g]?) (hz : w.heap.size ≤ w'.heap.size) : MktAt w' g o aL aLc aLn aP aPc aPn aD aDc aDn aN aNc aNn aS aSc aSn clock := by
  have c : ∀ i : Nat, w'.cell? ⟨g, i, none⟩ = w.cell? ⟨g, i, none⟩ := fun i => World.cell?_of_block (w := w) (a := ⟨g, i, none⟩) hb
  exact ⟨Nat.lt_of_lt_of_le h.lt hz, (c _).trans h.log, (c _).trans h.purses, (c _).trans h.deals, (c _).trans h.clk, (c _).trans h.nums, (c _).trans h.said, fun i => (World.frozen?_of_block (w := w) (a := ⟨g, i, none⟩) hb).trans (h.free i)⟩
def ReqB (w : World) (g : Nat) : Prop := Ints w g 6 ∧ ∃ u : Int, w.cell? ⟨g, 0, none⟩ = some (.int .i64 u) ∧ 1 ≤ u ∧ u ≤ 5

theorem l21Req_c (rb P : Nat) (aL : Option Addr) (aLc aLn : Nat) (aP : Option Addr) (aPc aPn : Nat) (aD : Option Addr) (aDc aDn : Nat) (aN : Option Addr) (aNc aNn : Nat) (aS : Option Addr) (aSc aSn : Nat) (m : Sw.Mkt) (rows : List Sw.Row) (w : World) (hr : Rdp w rb P) (hok : Sw.MOk m rows) (hM : RM w (rb + 1) aL aLc aLn aP aPc aPn aD aDc aDn aN aNc aNn aS aSc aSn m) (hP : P ≤ 900000) : Calls Try.prog 85 #[.pointer (some ⟨rb, 0, none⟩), .agg #[.slice aL aLn aLc, .slice aP aPn aPc, .slice aD aDn aDc, .int .i64 m.clock, .slice aN aNn aNc, .slice aS aSn aSc]] w fun E w' => ∃ p q r s t u, E = .returned (.agg #[.int .i64 p, .int .i64 q, .int .i64 r, .int .i64 s, .int .i64 t, .int .i64 u]) ∧ Rdp w' rb (P + 40) ∧ Ch (· = rb) w w' := by
  have hlt := hr.lt
  have HO := Lib.hid hok
  have e1 : Sw.mktRows m = rows := Sw.mktRows_of hok.fold
  have e2 := Sw.ownOk_len (Sw.ownFold_ok hok.fold)
  clear hok
  go_enter Try.func85, Try.ntmps85
  go_upto_block 0 with (first | (go_at_call 101; apply Calls.mono; apply sRows_c; (apply Rs.at0 hM.log; (exact kf_)); rintro E w1 ⟨A1, c1, n1, rfl, hrow, hb⟩; have hst := xr hb; (try simp only [zA, zC, zD, zN] at hst); obtain ⟨hc, hf, hz⟩ := hst) | (go_at_call 72; apply Calls.mono; apply pick_c; (apply Rdp.keep; assumption; (exact kb_)); (first | assumption | omega); (first | assumption | omega); rintro E w1 ⟨v, rfl, ⟨hv0, hv1⟩, hrd, hb⟩; have hst := xc hb; (try simp only [zA, zC, zD, zN] at hst); obtain ⟨hc, hf, hz⟩ := hst))
  rw [e1] at hrow
  obtain rfl : n1 = 8 := hrow.1.trans e2
  obtain ⟨t0, rfl⟩ := Int.eq_ofNat_of_zero_le hv0
  have ht0 : t0 < 8 := by omega
  have hrow1 : OwR w1 w.heap.size A1 c1 8 rows := (hrow.keep kf_).less sz_
  have hR1 : Ints w1 (w.heap.size + 1) 6 := by (repeat (first | with_reducible assumption | exact Ints.new (zs := [_, _, _, _, _, _]) (by first | with_reducible rfl | omega | (simp only [zA, zC, zD, zN]; done) | (simp only [zA, zC, zD, zN]; omega)) rfl rfl | exact Ints.new (zs := [_, _, _]) (by first | with_reducible rfl | omega | (simp only [zA, zC, zD, zN]; done) | (simp only [zA, zC, zD, zN]; omega)) rfl rfl | exact Ints.new (zs := [_, _, _, _]) (by first | with_reducible rfl | omega | (simp only [zA, zC, zD, zN]; done) | (simp only [zA, zC, zD, zN]; omega)) rfl rfl | with_reducible apply Ints.alloc | with_reducible apply Ints.drew | (with_reducible refine Ints.set ?_ rfl) | (with_reducible refine Ints.ch (by assumption) (by first | exact (fun h => h) | omega | (simp only [zA, zC, zD, zN]; omega)) ?_)))
  have hmk : MktAt w1 w.heap.size 0 aL aLc aLn aP aPc aPn aD aDc aDn aN aNc aNn aS aSc aSn m.clock := ⟨sz_, by (go_simp; first | done | simp [*]), by (go_simp; first | done | simp [*]), by (go_simp; first | done | simp [*]), by (go_simp; first | done | simp [*]), by (go_simp; first | done | simp [*]), by (go_simp; first | done | simp [*]), fun i => by (go_simp; first | done | simp [*])⟩
  have hHC : RdCh w w1 rb (P + 1) := ⟨hrd, ext_⟩
  have hsz : w.heap.size + 2 ≤ w1.heap.size := sz_
  clear hrow hv0 hv1 hrd hb hc hf hz
  ((repeat (rename Ch _ _ _ => zz; clear zz)); (repeat (rename Rdp _ _ _ => zz; clear zz)); (repeat (rename (∀ (b o : Nat), ¬ ((⟨b, 0, none⟩ : Addr) = ⟨b - _ + _, 0, none⟩) → _) => zz; clear zz)))
  obtain ⟨hrd, hb⟩ := hHC
  go_cut [6] (fun t wx => ∃ tt : Nat, t = .int .i64 tt ∧ tt < 8 ∧ Ch (· = rb) w1 wx ∧ Rdp wx rb (P + 10))
  case first =>
    go_wp2_with fail
    go_loopw [6, 7] (fun t k wr => ∃ (tt kk : Nat), t = .int .i64 tt ∧ tt < 8 ∧ k = .int .i64 kk ∧ kk ≤ 5 ∧ Ch (· = rb) w1 wr ∧ Rdp wr rb (P + 1 + kk)) (fun _ k _ => 5 - (intOf k).toNat)
    case atStart => exact ⟨t0, 0, rfl, ht0, rfl, by omega, Ch.refl _ _, hrd⟩
    case round =>
      obtain ⟨tt, kk, rfl, htt, rfl, hkk, hb2, hrd2⟩ := hrel
      have hst := xc hb2
      obtain ⟨hc2, hf2, hz2⟩ := hst
      have hrw : OwR wr w.heap.size A1 c1 8 rows := hrow1.keep kf_
      obtain ⟨gR, y, hA, hloR, hltR, hy, q0, q1, q2, hfz⟩ := at_OR hrw htt
      subst hA
      clear hy q2 hfz
      have i0 : (0 : Int) ≤ (tt : Int) := by omega
      have i1 : (tt : Int) < 8 := by omega
      have hlen8 : ((8 : Int) == 8) = true := rfl
      by_cases hgo : kk < 5 ∧ y.who = 0
      · obtain ⟨hk5, hw0⟩ := hgo
        have hg1 : (kk : Int) < 5 := by omega
        have hg2 : (y.who == 0) = true := by simp [hw0]
        go_wp2_with (go_at_call 72; apply Calls.mono; apply pick_c; (apply Rdp.keep; assumption; (exact kb_)); (first | assumption | omega); (first | assumption | omega); rintro E w1 ⟨v, rfl, ⟨hv0, hv1⟩, hrd, hb⟩; have hst := xc hb; (try simp only [zA, zC, zD, zN] at hst); obtain ⟨hc, hf, hz⟩ := hst)
        obtain ⟨t1, rfl⟩ := Int.eq_ofNat_of_zero_le hv0
        go_roundw
        case rel => exact ⟨t1, kk + 1, rfl, by omega, by go_num, by omega, ext_, hrd.more (by omega)⟩
        case measure => simp [intOf]; omega
      · rcases (show ¬ (kk : Int) < 5 ∨ ((kk : Int) < 5 ∧ (y.who == 0) = false) by by_cases h5 : kk < 5; exact .inr ⟨by omega, by simp; exact fun h => hgo ⟨h5, h⟩⟩; exact .inl (by omega)) with hk5 | ⟨hk5, hg2⟩
        all_goals
          go_wp2_with fail
          go_meet
          exact ⟨tt, rfl, htt, hb2, hrd2.more (by omega)⟩
  case rest =>
    obtain ⟨tt, rfl, htt, hb2, hrd2⟩ := hcut
    have hrw : OwR wc w.heap.size A1 c1 8 rows := hrow1.keep kf_
    obtain ⟨gR, y, hA, hloR, hltR, hy, q0, q1, q2, hfz⟩ := at_OR hrw htt
    subst hA
    have HY := Lib.hid hy
    have i0 : (0 : Int) ≤ (tt : Int) := by omega
    have i1 : (tt : Int) < 8 := by omega
    have hlen8 : ((8 : Int) == 8) = true := rfl
    have hRc : Ints wc (w.heap.size + 1) 6 := by (repeat (first | with_reducible assumption | exact Ints.new (zs := [_, _, _, _, _, _]) (by first | with_reducible rfl | omega | (simp only [zA, zC, zD, zN]; done) | (simp only [zA, zC, zD, zN]; omega)) rfl rfl | exact Ints.new (zs := [_, _, _]) (by first | with_reducible rfl | omega | (simp only [zA, zC, zD, zN]; done) | (simp only [zA, zC, zD, zN]; omega)) rfl rfl | exact Ints.new (zs := [_, _, _, _]) (by first | with_reducible rfl | omega | (simp only [zA, zC, zD, zN]; done) | (simp only [zA, zC, zD, zN]; omega)) rfl rfl | with_reducible apply Ints.alloc | with_reducible apply Ints.drew | (with_reducible refine Ints.set ?_ rfl) | (with_reducible refine Ints.ch (by assumption) (by first | exact (fun h => h) | omega | (simp only [zA, zC, zD, zN]; omega)) ?_)))
    have hb2w : Ch (· = rb) w wc := hb.trans' hb2 (fun i _ hi => hi)
    have hmc : MktAt wc w.heap.size 0 aL aLc aLn aP aPc aPn aD aDc aDn aN aNc aNn aS aSc aSn m.clock := hmk.blk (hb2.block w.heap.size (by omega) (by omega)) hb2.size
    obtain ⟨k0, k1, k2, k3, k4, k5, k6, kfm⟩ := hmc
    simp only [Nat.zero_add] at k1 k2 k3 k4 k5 k6
    have hszc : w.heap.size + 2 ≤ wc.heap.size := by have := hb2.size; omega
    clear hy q2 hfz hrow1 hR1 hmk hsz hrd hb hb2 hrw
    have hb := hb2w
    go_upto_block 2 with (first | (go_at_call 72; apply Calls.mono; apply pick_c; (apply Rdp.keep; assumption; (exact kb_)); (first | assumption | omega); (first | assumption | omega); rintro E w1 ⟨v, rfl, ⟨hv0, hv1⟩, hrd, hb⟩; have hst := xc hb; (try simp only [zA, zC, zD, zN] at hst); obtain ⟨hc, hf, hz⟩ := hst) | (go_at_call 102; apply Calls.mono; apply (sDealOfA_c (rows := rows)); (apply Rs.at0 hM.deals; (exact kf_)); (exact HO.out); rintro E w2 ⟨d1, d2, d3, d4, d5, ok, rfl, hsel, hb⟩; have hst := xr hb; (try simp only [zA, zC, zD, zN] at hst); obtain ⟨hc, hf, hz⟩ := hst))
    (refine wp_name ?_; intro W0 hb0; have hst := xr hb0; (try simp only [zA, zC, zD, zN] at hst); obtain ⟨hc0, hf0, hz0⟩ := hst)
    obtain ⟨g, hgg⟩ : ∃ g, g = w1.heap.size := ⟨_, rfl⟩
    obtain ⟨gd, hgd⟩ : ∃ g, g = w2.heap.size := ⟨_, rfl⟩
    have hI : Ints W0 g 6 := (by rw [hgg]; (repeat (first | with_reducible assumption | exact Ints.new (zs := [_, _, _, _, _, _]) (by first | with_reducible rfl | omega | (simp only [zA, zC, zD, zN]; done) | (simp only [zA, zC, zD, zN]; omega)) rfl rfl | exact Ints.new (zs := [_, _, _]) (by first | with_reducible rfl | omega | (simp only [zA, zC, zD, zN]; done) | (simp only [zA, zC, zD, zN]; omega)) rfl rfl | exact Ints.new (zs := [_, _, _, _]) (by first | with_reducible rfl | omega | (simp only [zA, zC, zD, zN]; done) | (simp only [zA, zC, zD, zN]; omega)) rfl rfl | with_reducible apply Ints.alloc | with_reducible apply Ints.drew | (with_reducible refine Ints.set ?_ rfl) | (with_reducible refine Ints.ch (by assumption) (by first | exact (fun h => h) | omega | (simp only [zA, zC, zD, zN]; omega)) ?_))))
    have hR : Ints W0 (w.heap.size + 1) 6 := (by (repeat (first | with_reducible assumption | exact Ints.new (zs := [_, _, _, _, _, _]) (by first | with_reducible rfl | omega | (simp only [zA, zC, zD, zN]; done) | (simp only [zA, zC, zD, zN]; omega)) rfl rfl | exact Ints.new (zs := [_, _, _]) (by first | with_reducible rfl | omega | (simp only [zA, zC, zD, zN]; done) | (simp only [zA, zC, zD, zN]; omega)) rfl rfl | exact Ints.new (zs := [_, _, _, _]) (by first | with_reducible rfl | omega | (simp only [zA, zC, zD, zN]; done) | (simp only [zA, zC, zD, zN]; omega)) rfl rfl | with_reducible apply Ints.alloc | with_reducible apply Ints.drew | (with_reducible refine Ints.set ?_ rfl) | (with_reducible refine Ints.ch (by assumption) (by first | exact (fun h => h) | omega | (simp only [zA, zC, zD, zN]; omega)) ?_))))
    have qc0 : W0.cell? ⟨g, 0, none⟩ = some (.int .i64 (1 + v)) := by rw [hgg]; (go_simp; first | done | simp [*])
    have qc1 : W0.cell? ⟨g, 1, none⟩ = some (.int .i64 0) := by rw [hgg]; (go_simp; first | done | simp [*])
    have qc2 : W0.cell? ⟨g, 2, none⟩ = some (.int .i64 0) := by rw [hgg]; (go_simp; first | done | simp [*])
    have qc3 : W0.cell? ⟨g, 3, none⟩ = some (.int .i64 tt) := by rw [hgg]; (go_simp; first | done | simp [*])
    have qc4 : W0.cell? ⟨g, 4, none⟩ = some (.int .i64 0) := by rw [hgg]; (go_simp; first | done | simp [*])
    have qc5 : W0.cell? ⟨g, 5, none⟩ = some (.int .i64 0) := by rw [hgg]; (go_simp; first | done | simp [*])
    have dc1 : W0.cell? ⟨gd, 1, none⟩ = some (.int .i64 d2) := by rw [hgd]; (go_simp; first | done | simp [*])
    have dc3 : W0.cell? ⟨gd, 3, none⟩ = some (.int .i64 d4) := by rw [hgd]; (go_simp; first | done | simp [*])
    have rc0 : W0.cell? ⟨gR, tt * 3, none⟩ = some (.int .i64 y.who) := by (go_simp; first | done | simp [*])
    have rc1 : W0.cell? ⟨gR, tt * 3 + 1, none⟩ = some (.int .i64 y.face) := by (go_simp; first | done | simp [*])
    have mc4 : W0.cell? ⟨w.heap.size, 4, none⟩ = some (.slice aN aNn aNc) := by (go_simp; first | done | simp [*])
    have HR : RdCh w W0 rb (P + 12) := ⟨(Rdp.keep hrd (show KB rb w1 W0 from by (exact kb_))).more (by omega), ext_⟩
    rw [← hgg, ← hgd]
    have hgRg : gR < g := by rw [hgg]; omega
    have hg0 : w.heap.size + 2 ≤ g := by rw [hgg]; exact sz_
    have hgd0 : g + 1 ≤ gd := by rw [hgd, hgg]; omega
    have hgd1 : gd < W0.heap.size := by rw [hgd]; omega
    have hfr := hI.free
    clear hb0 hc0 hf0 hz0 hb hc hf hz hrd hgg hgd q0 q1 hb2w hrd2 k1 k2 k3 k4 k5 k6 kfm hRc
    ((repeat (rename Ch _ _ _ => zz; clear zz)); (repeat (rename Rdp _ _ _ => zz; clear zz)); (repeat (rename (∀ (b o : Nat), ¬ ((⟨b, 0, none⟩ : Addr) = ⟨b - _ + _, 0, none⟩) → _) => zz; clear zz)))
    obtain ⟨hrd, hb⟩ := HR
    have hRl := hR.lt
    have hcap := entCap_bd y.face
    obtain ⟨hcap0, hcap1⟩ := hcap
    have hyo := Sw.rowOk_iff.1 (List.all_eq_true.1 (Bool.and_eq_true_iff.1 (Sw.ownFold_ok HO.out.fold)).1 y (List.mem_of_getElem? HY.out))
    go_cut [] (fun wx => Ints wx g 6 ∧ (∃ u : Int, wx.cell? ⟨g, 0, none⟩ = some (.int .i64 u) ∧ 1 ≤ u ∧ u ≤ 5) ∧ Ints wx (w.heap.size + 1) 6 ∧ wx.cell? ⟨w.heap.size, 4, none⟩ = some (.slice aN aNn aNc) ∧ Rdp wx rb (P + 25) ∧ Ch (· = rb) w wx)
    case first =>
      rcases (show (y.who == 0) = true ∨ ((y.who == 0) = false ∧ 1 ≤ y.who ∧ y.who ≤ 5) by (rcases hyo with ⟨h, _⟩ | ⟨h, _⟩; exact .inl (by simp [h]); exact .inr ⟨by simp; omega, h⟩)) with hw0 | ⟨hw0, hw1, hw5⟩
      all_goals clear hyo
      all_goals cases ok
      all_goals try (have hs2 := hsel rfl; obtain ⟨hs20, hs21⟩ := hs2)
      all_goals clear hsel
      all_goals go_wp2_with (first | (go_at_call 72; apply Calls.mono; apply (pickLit (fun _ => True)); (apply Rdp.keep; assumption; (exact kb_)); omega; (first | rfl | (simp; done)); (repeat (first | exact LitQ.nil | (refine LitQ.cons ⟨_, rfl, (by first | exact trivial | omega)⟩ ?_))); omega; (first | omega | (simp only [zA, zC, zD, zN]; omega)); rintro E w1 ⟨v, x, rfl, hv, hq, hcx, hrd, hb⟩; (try simp only [zA, zC, zD, zN] at hcx); have hst := xc hb; (try simp only [zA, zC, zD, zN] at hst); obtain ⟨hc, hf, hz⟩ := hst) | (go_at_call 72; apply Calls.mono; apply pick_c; (apply Rdp.keep; assumption; (exact kb_)); (first | assumption | omega); (first | assumption | omega); rintro E w1 ⟨v, rfl, ⟨hv0, hv1⟩, hrd, hb⟩; have hst := xc hb; (try simp only [zA, zC, zD, zN] at hst); obtain ⟨hc, hf, hz⟩ := hst) | (first | (go_at_call 52; refine (sEntCap_c _ _).mono ?_; rintro E w' ⟨rfl, rfl⟩)))
      all_goals go_meet
      all_goals exact ⟨by (repeat (first | with_reducible assumption | exact Ints.new (zs := [_, _, _, _, _, _]) (by first | with_reducible rfl | omega | (simp only [zA, zC, zD, zN]; done) | (simp only [zA, zC, zD, zN]; omega)) rfl rfl | exact Ints.new (zs := [_, _, _]) (by first | with_reducible rfl | omega | (simp only [zA, zC, zD, zN]; done) | (simp only [zA, zC, zD, zN]; omega)) rfl rfl | exact Ints.new (zs := [_, _, _, _]) (by first | with_reducible rfl | omega | (simp only [zA, zC, zD, zN]; done) | (simp only [zA, zC, zD, zN]; omega)) rfl rfl | with_reducible apply Ints.alloc | with_reducible apply Ints.drew | (with_reducible refine Ints.set ?_ rfl) | (with_reducible refine Ints.ch (by assumption) (by first | exact (fun h => h) | omega | (simp only [zA, zC, zD, zN]; omega)) ?_))), by (go_simp <;> omega), by (repeat (first | with_reducible assumption | exact Ints.new (zs := [_, _, _, _, _, _]) (by first | with_reducible rfl | omega | (simp only [zA, zC, zD, zN]; done) | (simp only [zA, zC, zD, zN]; omega)) rfl rfl | exact Ints.new (zs := [_, _, _]) (by first | with_reducible rfl | omega | (simp only [zA, zC, zD, zN]; done) | (simp only [zA, zC, zD, zN]; omega)) rfl rfl | exact Ints.new (zs := [_, _, _, _]) (by first | with_reducible rfl | omega | (simp only [zA, zC, zD, zN]; done) | (simp only [zA, zC, zD, zN]; omega)) rfl rfl | with_reducible apply Ints.alloc | with_reducible apply Ints.drew | (with_reducible refine Ints.set ?_ rfl) | (with_reducible refine Ints.ch (by assumption) (by first | exact (fun h => h) | omega | (simp only [zA, zC, zD, zN]; omega)) ?_))), by (go_simp; first | done | simp [*]), Rdp.more (Rdp.keep (by assumption) (by (exact kb_))) (by omega), ext_⟩
    case rest =>
      clear hI hR qc0 qc1 qc2 qc3 qc4 qc5 dc1 dc3 rc0 rc1 mc4 hrd hb hRl hyo hcap0 hcap1 hsel hfr
      obtain ⟨hI, ⟨u, hu, hu1, hu5⟩, hR, mc4, hrd, hb⟩ := hcut
      obtain ⟨k, rfl⟩ : ∃ k : Nat, u = (k : Int) + 1 := ⟨(u - 1).toNat, by omega⟩
      have hk5 : k < 5 := by omega
      have hNn : aNn = 5 := hM.nums.1.trans HO.out.nlen
      subst hNn
      have hN0 : RI wc 0 aN aNc 5 m.nums := Rs.at0 hM.nums kf_
      obtain ⟨gN, off, last, hA, _, hltN, _, hx, hcN⟩ := at_I hN0 hk5
      have hlb : 0 ≤ last ∧ last ≤ 99999 := by
        obtain ⟨z, hz⟩ : ∃ z, m.said[k]? = some z := ⟨_, List.getElem?_eq_getElem (by rw [HO.out.slen]; exact hk5)⟩
        have := Sw.numOk_iff.1 ((Sw.numsOk_iff (by rw [HO.out.nlen, HO.out.slen])).1 HO.out.nums _ _ _ hx hz)
        exact this.1
      obtain ⟨hl0, hl1⟩ := hlb
      subst hA
      clear hx hN0 hM
      have hfr := hI.free
      have hLg := hI.lt
      have hLr := hR.lt
      obtain ⟨o1, ho1⟩ := hI.at_ (i := 1) (by omega)
      obtain ⟨o2, ho2⟩ := hI.at_ (i := 2) (by omega)
      obtain ⟨o3, ho3⟩ := hI.at_ (i := 3) (by omega)
      obtain ⟨o4, ho4⟩ := hI.at_ (i := 4) (by omega)
      obtain ⟨o5, ho5⟩ := hI.at_ (i := 5) (by omega)
      obtain ⟨r0, hr0⟩ := hR.at_ (i := 0) (by omega); obtain ⟨r1, hr1⟩ := hR.at_ (i := 1) (by omega); obtain ⟨r2, hr2⟩ := hR.at_ (i := 2) (by omega); obtain ⟨r3, hr3⟩ := hR.at_ (i := 3) (by omega); obtain ⟨r4, hr4⟩ := hR.at_ (i := 4) (by omega); obtain ⟨r5, hr5⟩ := hR.at_ (i := 5) (by omega); have hrf := hR.free
      go_wp2_with (go_at_call 72; apply Calls.mono; apply pick_c; (apply Rdp.keep; assumption; (exact kb_)); (first | assumption | omega); (first | assumption | omega); rintro E w1 ⟨v, rfl, ⟨hv0, hv1⟩, hrd, hb⟩; have hst := xc hb; (try simp only [zA, zC, zD, zN] at hst); obtain ⟨hc, hf, hz⟩ := hst)
      · refine bodyPost_ret (v := .agg #[.int .i64 ((k : Int) + 1), .int .i64 (1 + v), .int .i64 o2, .int .i64 o3, .int .i64 o4, .int .i64 o5]) (by simp [results, Try.results85, go_sem, *]) rfl ?_
        exact ⟨_, _, _, _, _, _, rfl, (Rdp.keep hrd (by (exact kb_))).more (by omega), ext_⟩
      · refine bodyPost_ret (v := .agg #[.int .i64 ((k : Int) + 1), .int .i64 (last + 1), .int .i64 o2, .int .i64 o3, .int .i64 o4, .int .i64 o5]) (by simp [results, Try.results85, go_sem, *]) rfl ?_
        exact ⟨_, _, _, _, _, _, rfl, (Rdp.keep hrd (by (exact kb_))).more (by omega), ext_⟩
end Go.Proofs.Ytimpagcanengoaa

namespace Go.Proofs.Ytimpagcanengoaa
set_option maxRecDepth 100000
set_option linter.unusedSimpArgs false
set_option linter.unusedVariables false
open Go
section
variable {P : Program} {ops : Array Oper} {Q : Exit → Act → World → Prop} {md : Region.Mode} {S : World → Prop} {X : List Nat}
/-- In whatever order what is left comes up, Q holds behind it; S holds behind each operation that is not of X. -/
def GoesX (P : Program) (md : Region.Mode) (ops : Array Oper) (Q : Exit → Act → World → Prop) (S : World → Prop) (X : List Nat) : Nat → Array Bool → Act → World → Prop
  | 0 => fun l a w => Region.ready md ops l = [] ∧ Q .normal a w
  | n + 1 => fun l a w => (Region.ready md ops l = [] → Q .normal a w) ∧ ∀ i, i ∈ Region.ready md ops l → wpOp P ops Q i (fun b v => (X.contains i = false → S v) ∧ GoesX P md ops Q S X n (l.setIfInBounds i true) b v) a w
theorem GoesX.any : ∀ {n : Nat} {l : Array Bool} {a : Act} {w : World}, GoesX P md ops Q S X n l a w → wpAny P md ops Q n l a w
  | 0, _, _, _, h => h
  | _ + 1, _, _, _, h => ⟨h.1, fun i hi => wpOp_mono (fun _ _ k => GoesX.any k.2) (h.2 i hi)⟩
/-- What is of R has not come up, and waits for i, or for another one of R; all of X that has not come up is of R. -/
def lateX (md : Region.Mode) (ops : Array Oper) (X R : List Nat) (l : Array Bool) (i : Nat) : Bool :=
  (R.all fun x => !l.getD x true && (match ops[x]? with | some o => o.after.any (fun e => Region.binds md e && (e.on == i || R.contains e.on)) | none => false)) && X.all fun x => l.getD x true || R.contains x
theorem set_true {l : Array Bool} {x : Nat} : (l.setIfInBounds x true).getD x true = true := by
  by_cases hs : x < l.size
  · simp [Array.getD, hs]
  · simp [Array.getD, hs]
theorem lateX_not {R : List Nat} {l : Array Bool} {i j : Nat} (h : lateX md ops X R l i = true) (hi : l.getD i true = false) (hj : j ∈ Region.ready md ops l) : R.contains j = false := by
  cases hx : R.contains j with
  | false => rfl
  | true =>
    exfalso
    obtain ⟨jun, o, ho, hall⟩ := mem_ready.1 hj
    have hR := List.all_eq_true.1 (Bool.and_eq_true_iff.1 h).1
    have h1 := hR j (by simpa using hx)
    rw [ho, Bool.and_eq_true] at h1
    obtain ⟨e, he, hb⟩ := Array.any_eq_true'.1 h1.2
    rw [Bool.and_eq_true, Bool.or_eq_true, beq_iff_eq] at hb
    have h2 := hall e he hb.1
    have h3 : l.getD e.on true = false := by
      rcases hb.2 with hb | hb
      · rw [hb]; exact hi
      · have h4 := hR e.on (by simpa using hb)
        rw [Bool.and_eq_true, Bool.not_eq_true'] at h4
        exact h4.1
    by_cases hs : e.on < l.size
    · simp [Array.getD, hs] at h2 h3; rw [h2] at h3; cases h3
    · simp [Array.getD, hs] at h2
theorem lateX_X {R : List Nat} {l : Array Bool} {i j : Nat} (h : lateX md ops X R l i = true) (hi : l.getD i true = false) (hj : j ∈ Region.ready md ops l) : X.contains j = false := by
  have h1 := lateX_not h hi hj
  cases hx : X.contains j with
  | false => rfl
  | true =>
    have h2 := List.all_eq_true.1 (Bool.and_eq_true_iff.1 h).2 j (by simpa using hx)
    rw [h1, (mem_ready.1 hj).1] at h2
    cases h2
theorem lateX_more {R : List Nat} {l : Array Bool} {i j : Nat} (h : lateX md ops X R l i = true) (hj : R.contains j = false) : lateX md ops X R (l.setIfInBounds j true) i = true := by
  obtain ⟨h1, h2⟩ := Bool.and_eq_true_iff.1 h
  refine Bool.and_eq_true_iff.2 ⟨List.all_eq_true.2 fun x hx => ?_, List.all_eq_true.2 fun x hx => ?_⟩
  · have h3 := List.all_eq_true.1 h1 x hx
    have hjx : j ≠ x := by
      rintro rfl
      simp at hj
      exact hj hx
    rw [getD_set_ne true hjx]; exact h3
  · have h3 := List.all_eq_true.1 h2 x hx
    by_cases hjx : j = x
    · subst hjx
      rw [set_true]; rfl
    · rw [getD_set_ne true hjx]; exact h3
theorem free_more {l : Array Bool} {i j : Nat} (h : Region.free md ops l i = true) : Region.free md ops (l.setIfInBounds j true) i = true := by
  unfold Region.free at h ⊢
  cases hi : ops[i]? with
  | none => rw [hi] at h; exact h
  | some oi =>
    rw [hi] at h
    dsimp only at h ⊢
    rw [List.all_eq_true] at h ⊢
    intro x hx
    have h1 := h x hx
    by_cases hjx : j = x
    · subst hjx
      simp [set_true]
    · rw [getD_set_ne true hjx]; exact h1
/-- An operation that yields v wherever T holds is carried out first: T is what S says, and all of X comes behind it; or it is of X, and T says nothing. -/
theorem GoesX.first {T : World → Prop} {R : List Nat} {i : Nat} {oi : Oper} {v : Value} (hi : ops[i]? = some oi) (hsel : Region.noSelect ops = true)
    (hQ : ∀ c a w, Q (.panic c) (a.put oi.dst v) w → Q (.panic c) a w) : ∀ (n : Nat) (l : Array Bool) (a : Act) (w : World),
      ((X.contains i = true ∧ ∀ w, T w) ∨ (lateX md ops X R l i = true ∧ (∀ w, S w → T w) ∧ S w)) → Region.free md ops l i = true → i ∈ Region.ready md ops l → YieldsIf P ops T oi v a →
      GoesX P md ops Q S X n (l.setIfInBounds i true) (a.put oi.dst v) w → GoesX P md ops Q S X (n + 1) l a w := by
  have ns := Region.noSelect_spec hsel
  intro n
  induction n with
  | zero =>
    intro l a w hTS _ hr hy H
    refine ⟨fun h => absurd (h ▸ hr) (List.not_mem_nil), fun j hj => ?_⟩
    rcases Decidable.em (j = i) with rfl | hji
    · rcases hTS with ⟨h1, h2⟩ | ⟨h1, h2, h3⟩
      · exact hy.wpOp hi (h2 w) ⟨fun h => (by rw [h1] at h; cases h), H⟩
      · exact hy.wpOp hi (h2 w h3) ⟨fun _ => h3, H⟩
    · exact absurd (H.1 ▸ ready_mono hj hji) (List.not_mem_nil)
  | succ n ih =>
    intro l a w hTS hf hr hy H
    refine ⟨fun h => absurd (h ▸ hr) (List.not_mem_nil), fun j hj => ?_⟩
    rcases Decidable.em (j = i) with rfl | hji
    · rcases hTS with ⟨h1, h2⟩ | ⟨h1, h2, h3⟩
      · exact hy.wpOp hi (h2 w) ⟨fun h => (by rw [h1] at h; cases h), H⟩
      · exact hy.wpOp hi (h2 w h3) ⟨fun _ => h3, H⟩
    obtain ⟨jun, oj, hoj, hall⟩ := mem_ready.1 hj
    have iun := (mem_ready.1 hr).1
    have hno : ∀ e ∈ oj.after, Region.binds md e = true → e.on ≠ i := by
      rintro e he hb rfl
      have h1 := hall e he hb
      by_cases hs : e.on < l.size
      · simp [Array.getD, hs] at h1 iun; rw [h1] at iun; cases iun
      · simp [Array.getD, hs] at h1
    have key := wpOp_putIf hoj (Region.free_spec hi hf j oj hoj hji jun hno) (fun cs b => ns i oi cs b hi) (fun cs b => ns j oj cs b hoj) hQ hy (H.2 j (ready_mono hj hji))
    refine wpOp_mono (fun b u k => ⟨k.2.1, ?_⟩) key
    refine ih _ b u (hTS.imp id (fun h => ⟨lateX_more h.1 (lateX_not h.1 iun hj), h.2.1, k.2.1 (lateX_X h.1 iun hj)⟩)) (free_more hf) (ready_mono hr (Ne.symm hji)) k.1 ?_
    rw [Array.setIfInBounds_comm _ _ hji]
    exact k.2.2

/-- One that is wanted and reads nothing that S speaks of, or reads what S says. -/
theorem GoesX.take (i d : Nat) (R : List Nat) {v : Value} {oi : Oper} {n : Nat} {l : Array Bool} {a b : Act} {w : World} (hS : S w) (hi : ops[i]? = some oi := by rfl) (hd : oi.dst = some d := by rfl)
    (hs : Region.noSelect ops = true := by kernel_rfl) (hf : Region.free md ops l i = true := by kernel_rfl) (hr : (Region.ready md ops l).contains i = true := by kernel_rfl) (hl : lateX md ops X R l i = true := by kernel_rfl)
    (hw : Region.wanted oi (yielded ops a.tmps) = true := by rfl) (hy : ∀ w, S w → (execOp a.eval oi).run P w = .ok (.value v) w := by (intro w hSw; (try dsimp only at hSw); go_simp; (try with_reducible rfl)))
    (hQ : ∀ c a w, Q (.panic c) (a.put (some d) v) w → Q (.panic c) a w := by (exact (fun _ _ _ h => h))) (hb : a.put (some d) v = b := by (simp only [Act.put, List.setIfInBounds_toArray, List.set_cons_zero, List.set_cons_succ]; rfl))
    (h : GoesX P md ops Q S X n (l.setIfInBounds i true) b w) : GoesX P md ops Q S X (n + 1) l a w :=
  GoesX.first (T := S) hi hs (by rw [hd]; exact hQ) n l a w (.inr ⟨hl, fun _ h => h, hS⟩) hf (by simpa using hr) (.inl ⟨hw, hy⟩) (by rw [hd, hb]; exact h)
/-- One of X, that yields in whatever world. -/
theorem GoesX.takeX (i d : Nat) {v : Value} {oi : Oper} {n : Nat} {l : Array Bool} {a b : Act} {w : World} (hi : ops[i]? = some oi := by rfl) (hd : oi.dst = some d := by rfl)
    (hs : Region.noSelect ops = true := by kernel_rfl) (hf : Region.free md ops l i = true := by kernel_rfl) (hr : (Region.ready md ops l).contains i = true := by kernel_rfl) (hx : X.contains i = true := by kernel_rfl)
    (hw : Region.wanted oi (yielded ops a.tmps) = true := by rfl) (hy : ∀ w, (execOp a.eval oi).run P w = .ok (.value v) w := by (intro w; go_simp; (try with_reducible rfl)))
    (hQ : ∀ c a w, Q (.panic c) (a.put (some d) v) w → Q (.panic c) a w := by (exact (fun _ _ _ h => h))) (hb : a.put (some d) v = b := by (simp only [Act.put, List.setIfInBounds_toArray, List.set_cons_zero, List.set_cons_succ]; rfl))
    (h : GoesX P md ops Q S X n (l.setIfInBounds i true) b w) : GoesX P md ops Q S X (n + 1) l a w :=
  GoesX.first (T := fun _ => True) (R := []) hi hs (by rw [hd]; exact hQ) n l a w (.inl ⟨hx, fun _ => trivial⟩) hf (by simpa using hr) (.inl ⟨hw, fun w _ => hy w⟩) (by rw [hd, hb]; exact h)
/-- One that is not wanted. -/
theorem GoesX.skip (i d : Nat) (R : List Nat) {oi : Oper} {n : Nat} {l : Array Bool} {a b : Act} {w : World} (hS : S w) (hi : ops[i]? = some oi := by rfl) (hd : oi.dst = some d := by rfl)
    (hs : Region.noSelect ops = true := by kernel_rfl) (hf : Region.free md ops l i = true := by kernel_rfl) (hr : (Region.ready md ops l).contains i = true := by kernel_rfl) (hl : lateX md ops X R l i = true := by kernel_rfl)
    (hw : Region.wanted oi (yielded ops a.tmps) = false := by rfl)
    (hQ : ∀ c a w, Q (.panic c) (a.put (some d) undef) w → Q (.panic c) a w := by (exact (fun _ _ _ h => h))) (hb : a.put (some d) undef = b := by (simp only [Act.put, List.setIfInBounds_toArray, List.set_cons_zero, List.set_cons_succ]; rfl))
    (h : GoesX P md ops Q S X n (l.setIfInBounds i true) b w) : GoesX P md ops Q S X (n + 1) l a w :=
  GoesX.first (T := S) hi hs (by rw [hd]; exact hQ) n l a w (.inr ⟨hl, fun _ h => h, hS⟩) hf (by simpa using hr) (.inr ⟨hw, rfl⟩) (by rw [hd, hb]; exact h)

/-- Each of these comes up next. -/
def EachX (P : Program) (md : Region.Mode) (ops : Array Oper) (Q : Exit → Act → World → Prop) (S : World → Prop) (X : List Nat) (n : Nat) (l : Array Bool) (a : Act) (w : World) (rs : List Nat) : Prop :=
  ∀ i, i ∈ rs → wpOp P ops Q i (fun b v => (X.contains i = false → S v) ∧ GoesX P md ops Q S X n (l.setIfInBounds i true) b v) a w
theorem EachX.nil {n : Nat} {l : Array Bool} {a : Act} {w : World} : EachX P md ops Q S X n l a w [] := fun _ h => absurd h List.not_mem_nil
theorem EachX.put {n : Nat} {l : Array Bool} {a : Act} {w : World} {i : Nat} {o : Oper} {rs : List Nat} (ho : ops[i]? = some o) 
    (h : ∀ K : Act → World → Prop, Shut (∀ b v, (X.contains i = false → S v) → GoesX P md ops Q S X n (l.setIfInBounds i true) b v → K b v) → if Region.wanted o (yielded ops a.tmps) = true then Oper.wp P o a w K Q else K (a.put o.dst undef) w)
    (hs : EachX P md ops Q S X n l a w rs) : EachX P md ops Q S X n l a w (i :: rs) := fun j hj => by
  rcases List.mem_cons.1 hj with rfl | hj
  · exact wpOp_step ho (fun K hK => h K (fun b v h1 h2 => hK b v ⟨h1, h2⟩))
  · exact hs j hj
/-- One behind which S is to be shown; it is handed on. -/
theorem EachX.cons {n : Nat} {l : Array Bool} {a : Act} {w : World} {i : Nat} {o : Oper} {rs : List Nat} (ho : ops[i]? = some o)
    (h : ∀ K : Act → World → Prop, Shut (∀ b v, S v → (S v → GoesX P md ops Q S X n (l.setIfInBounds i true) b v) → K b v) → if Region.wanted o (yielded ops a.tmps) = true then Oper.wp P o a w K Q else K (a.put o.dst undef) w)
    (hs : EachX P md ops Q S X n l a w rs) : EachX P md ops Q S X n l a w (i :: rs) :=
  EachX.put ho (fun K hK => h K (fun b v hS hG => hK b v (fun _ => hS) (hG hS))) hs
/-- One of X. -/
theorem EachX.last {n : Nat} {l : Array Bool} {a : Act} {w : World} {i : Nat} {o : Oper} {rs : List Nat} (ho : ops[i]? = some o) (hx : X.contains i = true)
    (h : ∀ K : Act → World → Prop, Shut (∀ b v, GoesX P md ops Q S X n (l.setIfInBounds i true) b v → K b v) → if Region.wanted o (yielded ops a.tmps) = true then Oper.wp P o a w K Q else K (a.put o.dst undef) w)
    (hs : EachX P md ops Q S X n l a w rs) : EachX P md ops Q S X n l a w (i :: rs) :=
  EachX.put ho (fun K hK => h K (fun b v hG => hK b v (fun h => by rw [hx] at h; cases h) hG)) hs
theorem GoesX.ready {rs : List Nat} {n : Nat} {l : Array Bool} {a : Act} {w : World} (hr : Region.ready md ops l = rs) (hne : rs ≠ []) (h : EachX P md ops Q S X n l a w rs) : GoesX P md ops Q S X (n + 1) l a w :=
  ⟨fun h0 => absurd (hr ▸ h0) hne, fun i hi => h i (hr ▸ hi)⟩
theorem GoesX.done {l : Array Bool} {a : Act} {w : World} (hr : Region.ready md ops l = []) (h : Q .normal a w) : ∀ n, GoesX P md ops Q S X n l a w
  | 0 => ⟨hr, h⟩
  | _ + 1 => ⟨fun _ => h, fun i hi => absurd (hr ▸ hi) List.not_mem_nil⟩
/-- One way on. -/
theorem GoesX.one (i : Nat) {o : Oper} {n : Nat} {l : Array Bool} {a : Act} {w : World} (hr : Region.ready md ops l = [i] := by kernel_rfl) (ho : ops[i]? = some o := by rfl)
    (h : ∀ K : Act → World → Prop, Shut (∀ b v, S v → (S v → GoesX P md ops Q S X n (l.setIfInBounds i true) b v) → K b v) → if Region.wanted o (yielded ops a.tmps) = true then Oper.wp P o a w K Q else K (a.put o.dst undef) w) : GoesX P md ops Q S X (n + 1) l a w :=
  GoesX.ready hr (by simp) (EachX.cons ho h EachX.nil)
/-- One way on, of X. -/
theorem GoesX.oneX (i : Nat) {o : Oper} {n : Nat} {l : Array Bool} {a : Act} {w : World} (hr : Region.ready md ops l = [i] := by kernel_rfl) (ho : ops[i]? = some o := by rfl) (hx : X.contains i = true := by kernel_rfl)
    (h : ∀ K : Act → World → Prop, Shut (∀ b v, GoesX P md ops Q S X n (l.setIfInBounds i true) b v → K b v) → if Region.wanted o (yielded ops a.tmps) = true then Oper.wp P o a w K Q else K (a.put o.dst undef) w) : GoesX P md ops Q S X (n + 1) l a w :=
  GoesX.ready hr (by simp) (EachX.last ho hx h EachX.nil)
/-- Behind an operation: S, the state written out, and the rest. -/
theorem outS {n : Nat} {l : Array Bool} {a b : Act} {w : World} {K : Act → World → Prop} (hK : Shut (∀ b v, S v → (S v → GoesX P md ops Q S X n l b v) → K b v)) (hS : S w)
    (hb : a = b := by first | rfl | (simp only [Act.put, List.getElem_toArray, List.getElem_cons_succ, List.getElem_cons_zero, List.setIfInBounds_toArray, List.set_cons_zero, List.set_cons_succ]; rfl)) (h : S w → GoesX P md ops Q S X n l b w) : K a w := by
  subst hb; exact hK.out _ _ hS h
theorem outX {n : Nat} {l : Array Bool} {a b : Act} {w : World} {K : Act → World → Prop} (hK : Shut (∀ b v, GoesX P md ops Q S X n l b v → K b v))
    (hb : a = b := by first | rfl | (simp only [Act.put, List.getElem_toArray, List.getElem_cons_succ, List.getElem_cons_zero, List.setIfInBounds_toArray, List.set_cons_zero, List.set_cons_succ]; rfl)) (h : GoesX P md ops Q S X n l b w) : K a w := by
  subst hb; exact hK.out _ _ h
theorem wp_regionX (X : List Nat) {id : Nat} {a : Act} {w : World} (hS : S w.drew)
    (h : S w.drew → GoesX P .any ops Q S X ops.size (Array.replicate ops.size false) a w.drew) (hm : P.follows .mixedOrders = true := by kernel_rfl) : (Code.region id ops true).wp P Q a w := wp_region_any hm (GoesX.any (h hS))
end
theorem hdH {p : Prop} (h : p := by ((try dsimp only); (first | with_reducible assumption | with_reducible exact Held.start _ | with_reducible exact Held.of (by assumption) | with_reducible exact Held.ex (by assumption) (by assumption) | ((repeat (first | with_reducible refine Held.set ?_ (by simp only [zA, zC, zD, zN]; omega) | with_reducible refine Held.alloc ?_ _ | with_reducible refine Held.drew ?_)); (first | with_reducible assumption | with_reducible exact Held.refl _ | with_reducible exact Held.of (by assumption) | with_reducible exact Held.ex (by assumption) (by assumption))) | exact Held.of (by exact ext_)))) : p := h
theorem hdR {p : Prop} (h : p := by ((try dsimp only); (first | assumption | exact HeldR.of (by assumption) | exact HeldR.start _ _ | exact HeldR.ch (by assumption) (by assumption) | exact HeldR.ex (by assumption) (by assumption) | exact HeldR.alloc (by assumption) _ | exact HeldR.set (by assumption) (by simp only [zA, zC, zD, zN]; omega)))) : p := h
end Go.Proofs.Ytimpagcanengoaa

namespace Go.Proofs.Ytimpagcanengoaa
set_option maxRecDepth 100000
set_option linter.unusedSimpArgs false
set_option linter.unusedVariables false
open Go.RowKit Go

/-- copy: all is read first. -/
theorem run_copy_cellsK {P : Program} (w : World) (dT sT ty elem : TypeId) (sz b o dLen dCap : Nat) (a : Addr) (sLen sCap : Nat) (cs : List Value)
    (hu : P.underlying dT = some (.slice elem)) (hs : (P.info? elem).map (·.size) = some sz) (hn : cs.length = Nat.min sLen dLen * sz)
    (hsrc : ∀ j v, cs[j]? = some v → w.cell? (a.add j) = some v) (hc : ∀ j, j < cs.length → (w.cell? ⟨b, o + j, none⟩).isSome = true) (hf : ∀ j, j < cs.length → w.frozen? ⟨b, o + j, none⟩ = false) (h1 : ∀ v ∈ cs, v.oneCell' = true) :
    (Builtin.copy_ #[dT, sT] ty #[.slice (some ⟨b, o, none⟩) dLen dCap, .slice (some a) sLen sCap]).run P w = .ok (goInt (Nat.min sLen dLen)) (w.setCells b o cs) := by
  have hl := run_loadCells_list (P := P) w a cs hsrc
  have hst := run_storeCells_cells (P := P) b o cs 0 w (by simpa using hc) (by simpa using hf) h1
  cases hq : P.info? elem with
  | none => simp [hq] at hs
  | some i =>
    have hi : i.size = sz := by simpa [hq] using hs
    simp [Builtin.copy_, run_underlying hu, Builtin.lenOf, Builtin.firstCells, sizeOf, typeInfo, hq, hi, ← hn, hl, hst]
/-- clear: the elements hold zero values. -/
theorem run_clear_cellsK {P : Program} (w : World) (t e ty : TypeId) (z : Value) (zs : List Value) (ht : P.underlying t = some (.slice e)) (hv : ∀ w, (zeroValue e).run P w = .ok z w) (b o n c : Nat) (hn : 0 < n) (hzc : (Builtin.zeroCells z.cells n).toList = zs) (h1 : ∀ v ∈ zs, v.oneCell' = true)
    (hc : ∀ j, j < zs.length → (w.cell? ⟨b, o + j, none⟩).isSome = true) (hf : ∀ j, j < zs.length → w.frozen? ⟨b, o + j, none⟩ = false) :
    (Builtin.clear_ #[t] ty #[.slice (some ⟨b, o, none⟩) n c]).run P w = .ok (.tuple #[]) (w.setCells b o zs) := by
  have hst := run_storeCells_cells (P := P) b o zs 0 w (by simpa using hc) (by simpa using hf) h1
  simp only [Nat.add_zero] at hst
  obtain ⟨m, rfl⟩ : ∃ m, n = m + 1 := ⟨n - 1, by omega⟩
  simp [Builtin.clear_, run_underlying ht, hv, hzc, hst]

/-- A block some of whose cells are set. -/
theorem heap_setCells_same {e : TypeId} {fz : Nat × Nat} {g : Nat} : ∀ (vs : List Value) (o : Nat) (w : World) (cur : Array Value), w.heap[g]? = some (.cells cur e fz) → o + vs.length ≤ cur.size →
    ∃ cur', (w.setCells g o vs).heap[g]? = some (.cells cur' e fz) ∧ cur'.size = cur.size ∧ cur'.toList = cur.toList.take o ++ vs ++ cur.toList.drop (o + vs.length)
  | [], o, w, cur, h, hl => ⟨cur, h, rfl, by simp⟩
  | v :: r, o, w, cur, h, hl => by
    simp only [List.length_cons] at hl
    have h1 : (w.setCell ⟨g, o, none⟩ v).heap[g]? = some (.cells (cur.setIfInBounds o v) e fz) := by simp [World.setCell, Array.getElem?_modify, h]
    obtain ⟨c2, h2, h3, h4⟩ := heap_setCells_same r (o + 1) _ _ h1 (by simp; omega)
    refine ⟨c2, h2, by simpa using h3, ?_⟩
    rw [h4, Array.toList_setIfInBounds]
    have ho : o < cur.toList.length := by simp; omega
    rw [List.drop_set_of_lt (by omega), List.take_set, List.take_add_one, List.getElem?_eq_getElem ho, List.set_append_right _ _ (by simp; omega)]
    simp [Nat.min_eq_left (Nat.le_of_lt (by simpa using ho)), Nat.add_assoc, Nat.add_comm 1]
theorem size_setCells (g : Nat) : ∀ (vs : List Value) (o : Nat) (w : World), (w.setCells g o vs).heap.size = w.heap.size
  | [], _, _ => rfl
  | v :: r, o, w => by rw [World.setCells, size_setCells g r]; simp [World.setCell]
theorem heap_setCells_ne {g i : Nat} (h : i ≠ g) : ∀ (vs : List Value) (o : Nat) (w : World), (w.setCells g o vs).heap[i]? = w.heap[i]?
  | [], _, _ => rfl
  | v :: r, o, w => by rw [World.setCells, heap_setCells_ne h r]; exact Below.heap_setCell _ _ _ _ h
theorem Ch.setCells {S : Nat → Prop} {a : World} {g : Nat} (hg : S g ∨ a.heap.size ≤ g) : ∀ (vs : List Value) (o : Nat) (w : World), Ch S a w → Ch S a (w.setCells g o vs)
  | [], _, _, h => h
  | v :: r, o, w, h => by rw [World.setCells]; exact Ch.setCells hg r (o + 1) _ (cS h hg v)
/-- The cells of an owned slice written over: it is another list. -/
theorem Ow.over {α : Type} {enc : α → List Value} {sz : Nat} {e : TypeId} {w : World} {lo c n m o g : Nat} {xs ys : List α} {vs : List Value} (h : Ow enc sz e w lo (some ⟨g, 0, none⟩) c n xs) (hm : m ≤ c) (hl : o + vs.length ≤ c * sz) (hy : m = ys.length)
    (he : ∀ cur : List Value, cur.length = c * sz → cur.take (n * sz) = xs.flatMap enc → (cur.take o ++ vs ++ cur.drop (o + vs.length)).take (m * sz) = ys.flatMap enc) (hyl : (ys.flatMap enc).length = m * sz) :
    Ow enc sz e (w.setCells g o vs) lo (some ⟨g, 0, none⟩) c m ys := by
  rcases h.form with ⟨hA, _⟩ | ⟨g', cur, hA, hlo, hlt, hh, hn, hc, hs, ht⟩
  · cases hA
  · cases hA
    obtain ⟨cur', h1, h2, h3⟩ := heap_setCells_same vs o w cur hh (by omega)
    exact ⟨hy, hyl, .inr ⟨g, c, cur', rfl, hlo, h1, hm, hc, by omega, by rw [h3]; exact he cur.toList (by simpa using hs) ht⟩⟩
/-- All of its block's cells are there, and none is frozen. -/
theorem Ow.there {α : Type} {enc : α → List Value} {sz : Nat} {e : TypeId} {w : World} {lo c n g : Nat} {xs : List α} (h : Ow enc sz e w lo (some ⟨g, 0, none⟩) c n xs) : (∀ j, j < c * sz → (w.cell? ⟨g, j, none⟩).isSome = true) ∧ (∀ j, w.frozen? ⟨g, j, none⟩ = false) := by
  rcases h.form with ⟨hA, _⟩ | ⟨g', cur, hA, hlo, hlt, hh, hn, hc, hs, ht⟩
  · cases hA
  · cases hA
    exact ⟨fun j hj => by simp [World.cell?, hh, show j < cur.size by omega], fun j => by simp [World.frozen?, hh]⟩
/-- A shorter front of an owned slice. -/
theorem Ow.front {α : Type} {enc : α → List Value} {sz : Nat} {e : TypeId} {w : World} {lo c n k : Nat} {A : Option Addr} {xs : List α} (h : Ow enc sz e w lo A c n xs) (hsz : ∀ x, (enc x).length = sz) (hk : k ≤ n) : Ow enc sz e w lo A c k (xs.take k) := by
  have hlen : ∀ l : List α, (l.flatMap enc).length = l.length * sz := by
    intro l
    induction l with
    | nil => simp
    | cons x l ih => simp only [List.flatMap_cons, List.length_append, hsz, ih, List.length_cons, Nat.succ_mul]; omega
  have hkl : (xs.take k).length = k := by rw [List.length_take, ← h.1]; omega
  have hcut : ∀ (l : List α) (k : Nat), (l.flatMap enc).take (k * sz) = (l.take k).flatMap enc := by
    intro l
    induction l with
    | nil => intro k; simp
    | cons x l ih =>
      intro k
      cases k with
      | zero => simp
      | succ k =>
        rw [List.take_succ_cons, List.flatMap_cons, List.flatMap_cons, List.take_append, hsz, Nat.succ_mul, List.take_of_length_le (by rw [hsz]; omega), Nat.add_sub_cancel, ih]
  refine ⟨hkl.symm, by rw [hlen, hkl], ?_⟩
  rcases h.2.2 with ⟨hv, h0⟩ | ⟨g, cap, cur, hv, hb, hh, hn, hm, hs, ht⟩
  · injection hv with h1 h2 h3
    subst h1 h3
    obtain rfl : k = 0 := by omega
    exact .inl ⟨rfl, rfl⟩
  · injection hv with h1 h2 h3
    subst h1 h3
    refine .inr ⟨g, c, cur, rfl, hb, hh, by omega, hm, hs, ?_⟩
    rw [← hcut, ← ht, List.take_take, Nat.min_eq_left (Nat.mul_le_mul_right _ hk)]
theorem flat_take {α : Type} {enc : α → List Value} {sz : Nat} (hsz : ∀ x, (enc x).length = sz) : ∀ (l : List α) (k : Nat), (l.flatMap enc).take (k * sz) = (l.take k).flatMap enc
  | [], k => by simp
  | x :: l, 0 => by simp
  | x :: l, k + 1 => by
    rw [List.take_succ_cons, List.flatMap_cons, List.flatMap_cons, List.take_append, hsz, Nat.succ_mul, List.take_of_length_le (by rw [hsz]; omega), Nat.add_sub_cancel, flat_take hsz l k]
theorem flat_drop {α : Type} {enc : α → List Value} {sz : Nat} (hsz : ∀ x, (enc x).length = sz) : ∀ (l : List α) (k : Nat), (l.flatMap enc).drop (k * sz) = (l.drop k).flatMap enc
  | [], k => by simp
  | x :: l, 0 => by simp
  | x :: l, k + 1 => by
    rw [List.drop_succ_cons, List.flatMap_cons, List.drop_append, hsz, Nat.succ_mul, List.drop_of_length_le (by rw [hsz]; omega), Nat.add_sub_cancel, flat_drop hsz l k, List.nil_append]
/-- An append where there is room: in place. -/
theorem wp_appR {P : Program} {w : World} {o : Oper} {a : Act} {Kx : Act → World → Prop} {Q : Exit → Act → World → Prop} {α : Type} {enc : α → List Value} {sz bytes : Nat} {t e : TypeId} {s x : Operand}
    {lo lo2 c n m d g : Nat} {ad : Addr} {xs ys : List α}
    (hel : ElemOk P t e sz bytes) (h1 : ∀ x, ∀ u ∈ enc x, u.oneCell' = true) (hsz : ∀ x, (enc x).length = sz)
    (ho : o.op = .call { callee := .builtin .append, args := #[s, x], argTypes := #[t, t] }) (hs : a.eval s = .slice (some ⟨g, 0, none⟩) n c) (hx : a.eval x = .slice (some ad) m d)
    (hown : Ow enc sz e w lo (some ⟨g, 0, none⟩) c n xs) (hnew : Rs enc sz w lo2 (some ad) d m ys) (hroom : n + m ≤ c)
    (K : ∀ w', Ow enc sz e w' lo (some ⟨g, 0, none⟩) c (n + m) (xs ++ ys) → Ch (· = g) w w' → Kx (a.put o.dst (.slice (some ⟨g, 0, none⟩) (n + m) c)) w') :
    o.wp P a w Kx Q := by
  obtain ⟨i, z, hi, hz, hsz', hby, hzs⟩ := hel.info
  have hmem : ∀ u ∈ ys.flatMap enc, u.oneCell' = true := by
    intro u hu
    obtain ⟨y, _, hy⟩ := List.mem_flatMap.1 hu
    exact h1 y u hy
  have hlen : (ys.flatMap enc).length = m * sz := hnew.2.len
  have e1 : (n + m) * sz = n * sz + m * sz := Nat.add_mul ..
  have e2 : (n + m) * sz ≤ c * sz := Nat.mul_le_mul_right _ hroom
  have hth := hown.there
  have hrun := run_append_room_cells (P := P) (w := w) t o.type e i hel.sl hi g 0 n c ad m d (ys.flatMap enc) (by rw [hsz', hlen])
    (fun j u hu => by
      have hm : 0 < m := by
        have h1 := (List.getElem?_eq_some_iff.1 hu).1
        rw [hlen] at h1
        rcases Nat.eq_zero_or_pos m with h0 | h0
        · subst h0; simp at h1
        · exact h0
      obtain ⟨h1', _, _, h4⟩ := hnew.2.cells _ rfl hm
      obtain ⟨g, off, spot⟩ := ad
      dsimp only at h1' h4
      subst h1'
      rw [Addr.add_lit]; exact h4 j u hu) hmem hroom (fun j hj => by rw [hsz', Nat.zero_add]; exact hth.1 _ (by omega)) (fun j hj => hth.2 _)
  rw [hsz', Nat.zero_add] at hrun
  have hyl : ((xs ++ ys).flatMap enc).length = (n + m) * sz := by rw [List.flatMap_append, List.length_append, hown.2.1, hlen, e1]
  have hov := hown.over (m := n + m) (ys := xs ++ ys) (vs := ys.flatMap enc) (o := n * sz) hroom (by omega) (by rw [List.length_append, hown.1, hnew.1]) (fun cur hc ht => by
    have hl : (cur.take (n * sz)).length = n * sz := by rw [List.length_take, hc]; omega
    rw [ht, List.flatMap_append, List.take_append_of_le_length (by rw [List.length_append, hown.2.1, hlen]; omega), List.take_of_length_le (by rw [List.length_append, hown.2.1, hlen]; omega)]) hyl
  unfold Oper.wp execOp
  simp only [ho, resolve, invoke, builtin, Sem.run_bind, Sem.run_pure, Result.andThen_ok, List.map_toArray, List.map_cons, List.map_nil, hs, hx, hrun]
  exact K _ hov (Ch.setCells (S := (· = g)) (.inl rfl) _ _ _ (Ch.refl _ _))
theorem step_appR {P : Program} {w : World} {ops : Array Oper} {o : Oper} {a : Act} {Kx : Act → World → Prop} {Q : Exit → Act → World → Prop} {E : Prop} {α : Type} {enc : α → List Value} {sz bytes : Nat} {t e : TypeId} {s x : Operand}
    {lo lo2 c n m d g : Nat} {ad : Addr} {xs ys : List α}
    (hel : ElemOk P t e sz bytes) (h1 : ∀ x, ∀ u ∈ enc x, u.oneCell' = true) (hsz : ∀ x, (enc x).length = sz) (hgd : o.guard = none)
    (ho : o.op = .call { callee := .builtin .append, args := #[s, x], argTypes := #[t, t] }) (hs : a.eval s = .slice (some ⟨g, 0, none⟩) n c) (hx : a.eval x = .slice (some ad) m d)
    (hown : Ow enc sz e w lo (some ⟨g, 0, none⟩) c n xs) (hnew : Rs enc sz w lo2 (some ad) d m ys) (hroom : n + m ≤ c)
    (K : ∀ w', Ow enc sz e w' lo (some ⟨g, 0, none⟩) c (n + m) (xs ++ ys) → Ch (· = g) w w' → Kx (a.put o.dst (.slice (some ⟨g, 0, none⟩) (n + m) c)) w') :
    if Region.wanted o (yielded ops a.tmps) = true then o.wp P a w Kx Q else E := by
  rw [if_pos (by simp [Region.wanted, hgd])]
  exact wp_appR hel h1 hsz ho hs hx hown hnew hroom K
/-- copy, clear, append: where their run is known. -/
theorem wp_copyK {P : Program} {w : World} {o : Oper} {a : Act} {Kx : Act → World → Prop} {Q : Exit → Act → World → Prop} {d s : Operand} {t t' : TypeId} {v u v' : Value} {w' : World}
    (ho : o.op = .call { callee := .builtin .copy, args := #[d, s], argTypes := #[t, t'] }) (hd : a.eval d = v) (hs : a.eval s = u) (hr : (Builtin.copy_ #[t, t'] o.type #[v, u]).run P w = .ok v' w') (K : Kx (a.put o.dst v') w') : o.wp P a w Kx Q := by
  unfold Oper.wp execOp
  simp only [ho, resolve, invoke, builtin, Sem.run_bind, Sem.run_pure, Result.andThen_ok, List.map_toArray, List.map_cons, List.map_nil, hd, hs, hr]
  exact K
theorem wpList_copyK {P : Program} {w : World} {ops : Array Oper} {rest : List Oper} {o : Oper} {a : Act} {Q : Exit → Act → World → Prop} {d s : Operand} {t t' : TypeId} {v u v' : Value} {w' : World} (hgd : o.guard = none)
    (ho : o.op = .call { callee := .builtin .copy, args := #[d, s], argTypes := #[t, t'] }) (hd : a.eval d = v) (hs : a.eval s = u) (hr : (Builtin.copy_ #[t, t'] o.type #[v, u]).run P w = .ok v' w') (K : wpList P ops Q rest (a.put o.dst v') w') : wpList P ops Q (o :: rest) a w :=
  wpList_plain hgd fun _ hK => wp_copyK ho hd hs hr (hK _ _ K)
theorem step_copyK {P : Program} {w : World} {ops : Array Oper} {o : Oper} {a : Act} {Kx : Act → World → Prop} {Q : Exit → Act → World → Prop} {E : Prop} {d s : Operand} {t t' : TypeId} {v u v' : Value} {w' : World} (hgd : o.guard = none)
    (ho : o.op = .call { callee := .builtin .copy, args := #[d, s], argTypes := #[t, t'] }) (hd : a.eval d = v) (hs : a.eval s = u) (hr : (Builtin.copy_ #[t, t'] o.type #[v, u]).run P w = .ok v' w') (K : Kx (a.put o.dst v') w') :
    if Region.wanted o (yielded ops a.tmps) = true then o.wp P a w Kx Q else E := by
  rw [if_pos (by simp [Region.wanted, hgd])]
  exact wp_copyK ho hd hs hr K
theorem wpList_clearK {P : Program} {w : World} {ops : Array Oper} {rest : List Oper} {o : Oper} {a : Act} {Q : Exit → Act → World → Prop} {s : Operand} {t : TypeId} {u v' : Value} {w' : World} (hgd : o.guard = none)
    (ho : o.op = .call { callee := .builtin .clear, args := #[s], argTypes := #[t] }) (hs : a.eval s = u) (hr : (Builtin.clear_ #[t] o.type #[u]).run P w = .ok v' w') (K : wpList P ops Q rest (a.put o.dst v') w') : wpList P ops Q (o :: rest) a w :=
  wpList_plain hgd fun _ hK => by
    unfold Oper.wp execOp
    simp only [ho, resolve, invoke, builtin, Sem.run_bind, Sem.run_pure, Result.andThen_ok, List.map_toArray, List.map_cons, List.map_nil, hs, hr]
    exact hK _ _ K
end Go.Proofs.Ytimpagcanengoaa

namespace Go.Proofs.Ytimpagcanengoaa
set_option maxRecDepth 100000
set_option linter.unusedSimpArgs false
set_option linter.unusedVariables false
open Go.RowKit Go
set_option maxHeartbeats 4000000

theorem take_drop_erase {α : Type} : ∀ (l : List α) (k : Nat), l.take k ++ l.drop (k + 1) = l.eraseIdx k
  | [], k => by simp
  | x :: l, 0 => by simp
  | x :: l, k + 1 => by simp [take_drop_erase l k]
theorem iDelete_c (g c n k lo : Nat) (ds : List Sw.Deal) (w : World) (h : OwD w lo (some ⟨g, 0, none⟩) c n ds) (hk : k < n) : Calls Try.prog 113 #[.slice (some ⟨g, 0, none⟩) n c, .int .i64 k, .int .i64 ((k : Int) + 1)] w fun E w' =>
    E = .returned (.slice (some ⟨g, 0, none⟩) (n - 1) c) ∧ OwD w' lo (some ⟨g, 0, none⟩) c (n - 1) (ds.eraseIdx k) ∧ Ch (· = g) w w' := by
  have hle := h.rs.2.le
  have hcb := h.rs.2.cap
  have hfront := Lib.hid (Ow.front h (fun _ => rfl) (k := k) (by omega))
  have s2 := h.rs.drop (fun _ => rfl) (k := k + 1) (by omega)
  have l3 := Lib.hid h.1
  unfold maxLen at hcb
  have z0 : (0 : Int) ≤ (k : Int) := by omega
  have z1 : (k : Int) ≤ (n : Int) := by omega
  have z2 : (k : Int) + 1 ≤ (n : Int) := by omega
  have z3 : (0 : Int) ≤ (k : Int) + 1 := by omega
  have z4 : (k : Int) ≤ (c : Int) := by omega
  have z5 : (n : Int) ≤ (c : Int) := by omega
  have z6 : ((k : Int) + 1).toNat = k + 1 := by omega
  have z7 : (k : Int) ≤ (k : Int) + 1 := by omega
  have z8 : (k : Int) + 1 ≤ (c : Int) := by omega
  have z9 : ((k : Int) == (k : Int) + 1) = false := by simp; omega
  clear h
  obtain ⟨q, hq⟩ : ∃ q, k + (n - (k + 1)) = q := ⟨_, rfl⟩
  have hq1 : q + 1 = n := by omega
  have fin : ∀ w2 : World, OwD w2 lo (some ⟨g, 0, none⟩) c q (ds.take k ++ ds.drop (k + 1)) → Ch (· = g) w w2 →
      (∀ ty, (Builtin.clear_ #[25] ty #[.slice (some ⟨g, q * 5, none⟩) (n - q) (c - q)]).run Try.prog w2 = .ok (.tuple #[]) (w2.setCells g (q * 5) (Sw.Deal.enc Sw.dealZ))) ∧
      OwD (w2.setCells g (q * 5) (Sw.Deal.enc Sw.dealZ)) lo (some ⟨g, 0, none⟩) c (n - 1) (ds.eraseIdx k) ∧ Ch (· = g) w (w2.setCells g (q * 5) (Sw.Deal.enc Sw.dealZ)) := by
    intro w2 h3 hb
    rw [take_drop_erase] at h3
    rw [show n - q = 1 by omega, show n - 1 = q by omega]
    have hth := h3.there
    refine ⟨fun ty => ?_, ?_, Ch.setCells (S := (· = g)) (.inl rfl) _ _ _ hb⟩
    · exact run_clear_cellsK w2 25 38 ty (.agg #[.int .i64 0, .int .i64 0, .int .i64 0, .int .i64 0, .int .i64 0]) (Sw.Deal.enc Sw.dealZ) (by kernel_rfl) (fun w => by simp [go_sem]) g (q * 5) 1 _ (by omega) (by kernel_rfl) (by intro v hv; simp [Sw.Deal.enc, Sw.dealZ] at hv; subst hv; rfl)
        (fun j hj => hth.1 _ (by have : (Sw.Deal.enc Sw.dealZ).length = 5 := rfl; omega)) (fun j hj => hth.2 _)
    · exact h3.over (m := q) (ys := ds.eraseIdx k) (by omega) (by have : (Sw.Deal.enc Sw.dealZ).length = 5 := rfl; omega) h3.1 (fun cur hc ht => by
        rw [List.append_assoc, List.take_append_of_le_length (by rw [List.length_take, hc]; omega), List.take_take, Nat.min_self, ht]) h3.2.1
  have Hfin := Lib.hid fin
  have q0 : (0 : Int) ≤ (q : Int) := by omega
  have q1 : (q : Int) ≤ (n : Int) := by omega
  have q2 : ¬ c = q := by omega
  have q3 : (q : Int) ≤ (c : Int) := by omega
  clear fin
  by_cases hck : c = k + 1
  · rw [if_pos hck] at s2
    subst hck
    obtain rfl : n = k + 1 := by omega
    obtain rfl : q = k := by omega
    simp only [Nat.sub_self] at s2
    have hs2 := Lib.hid s2
    clear s2 hq
    go_enter Try.func113, Try.ntmps113
    go_wp2_with fail
    go_region_law (refine step_appR (lo := lo) el_D one_D (fun _ => rfl) rfl rfl (by simp [Act.eval, Act.put]; done) (by simp [Act.eval, Act.put]; done) (hfront.out.keep (by (exact kf_))) (hs2.out.keep (by (exact kf_))) (by omega) (fun w2 ho1 hch1 => ?_))
    all_goals
      simp only [Nat.add_zero] at ho1
      obtain ⟨f1, f2, f3⟩ := Hfin.out w2 ho1 ((cD (cR _ _)).trans' hch1 (fun i _ hi => hi))
      clear ho1 hch1
      simp only [Nat.add_sub_cancel_left] at f1
      go_wp2_with (at_builtin; refine wpList_clearK rfl rfl rfl (f1 _) ?_)
      go_ret
      exact ⟨rfl, f2, f3⟩
  · rw [if_neg hck] at s2
    simp only [Option.map_some, Addr.add_lit, Nat.zero_add] at s2
    have hs2 := Lib.hid s2
    clear s2
    go_enter Try.func113, Try.ntmps113
    go_wp2_with fail
    go_region_law (refine step_appR (lo := lo) el_D one_D (fun _ => rfl) rfl rfl (by simp [Act.eval, Act.put]; done) (by simp [Act.eval, Act.put]; done) (hfront.out.keep (by (exact kf_))) (hs2.out.keep (by (exact kf_))) (by omega) (fun w2 ho1 hch1 => ?_))
    all_goals
      (try rw [hq] at ho1)
      (try rw [hq])
      obtain ⟨f1, f2, f3⟩ := Hfin.out w2 ho1 ((cD (cR _ _)).trans' hch1 (fun i _ hi => hi))
      clear ho1 hch1
      go_wp2_with (at_builtin; refine wpList_clearK rfl rfl rfl (f1 _) ?_)
      go_ret
      exact ⟨by rw [show n - 1 = q by omega]; rfl, f2, f3⟩
end Go.Proofs.Ytimpagcanengoaa

namespace Go.Proofs.Ytimpagcanengoaa
set_option maxRecDepth 100000
set_option linter.unusedSimpArgs false
set_option linter.unusedVariables false
open Go.RowKit Go
set_option maxHeartbeats 4000000

theorem lenD (d : Sw.Deal) : (Sw.Deal.enc d).length = 5 := rfl
theorem fl5 (l : List Sw.Deal) : (l.flatMap Sw.Deal.enc).length = l.length * 5 := flat_len (enc := Sw.Deal.enc) (sz := 5) lenD l
theorem ft5 (l : List Sw.Deal) (k : Nat) : (l.flatMap Sw.Deal.enc).take (k * 5) = (l.take k).flatMap Sw.Deal.enc := flat_take (enc := Sw.Deal.enc) (sz := 5) lenD l k
theorem fd5 (l : List Sw.Deal) (k : Nat) : (l.flatMap Sw.Deal.enc).drop (k * 5) = (l.drop k).flatMap Sw.Deal.enc := flat_drop (enc := Sw.Deal.enc) (sz := 5) lenD l k
/-- An element put in where there is room: what lies behind goes up by one, and then it is written. -/
theorem Ow.shifted {w : World} {lo c n k g : Nat} {ds : List Sw.Deal} {d : Sw.Deal} (h : OwD w lo (some ⟨g, 0, none⟩) c n ds) (hk : k < n) (hroom : n + 1 ≤ c) :
    OwD ((w.setCells g ((k + 1) * 5) ((ds.drop k).flatMap Sw.Deal.enc)).setCells g (k * 5) (Sw.Deal.enc d)) lo (some ⟨g, 0, none⟩) c (n + 1) (ds.take k ++ d :: ds.drop k) := by
  have hl := h.1
  have hdl : ((ds.drop k).flatMap Sw.Deal.enc).length = (n - k) * 5 := by rw [fl5]; simp; omega
  have h1 : OwD (w.setCells g ((k + 1) * 5) ((ds.drop k).flatMap Sw.Deal.enc)) lo (some ⟨g, 0, none⟩) c (n + 1) (ds.take (k + 1) ++ ds.drop k) := by
    refine h.over (m := n + 1) (ys := ds.take (k + 1) ++ ds.drop k) hroom (by omega) (by simp; omega) (fun cur hc ht => ?_) (by rw [fl5]; simp; omega)
    have e1 : cur.take ((k + 1) * 5) = (ds.take (k + 1)).flatMap Sw.Deal.enc := by
      rw [← ft5, ← ht, List.take_take, Nat.min_eq_left (by omega)]
    rw [e1, List.flatMap_append, List.take_append_of_le_length (by rw [List.length_append, hdl, fl5]; simp; omega), List.take_of_length_le (by rw [List.length_append, hdl, fl5]; simp; omega)]
  refine h1.over (m := n + 1) (ys := ds.take k ++ d :: ds.drop k) hroom (by rw [lenD]; omega) (by simp; omega) (fun cur hc ht => ?_) (by rw [fl5]; simp; omega)
  have e1 : cur.take (k * 5) = (ds.take k).flatMap Sw.Deal.enc := by
    have := congrArg (List.take (k * 5)) ht
    rw [List.take_take, Nat.min_eq_left (by omega), ft5, List.take_append_of_le_length (by simp; omega), List.take_take, Nat.min_eq_left (by omega)] at this
    exact this
  have e2 : (cur.drop (k * 5 + 5)).take ((n - k) * 5) = (ds.drop k).flatMap Sw.Deal.enc := by
    have := congrArg (List.drop ((k + 1) * 5)) ht
    rw [List.drop_take, fd5, List.drop_append_of_le_length (by simp; omega), show List.drop (k + 1) (ds.take (k + 1)) = [] from List.drop_of_length_le (by simp; omega), List.nil_append, show (k + 1) * 5 = k * 5 + 5 by omega, show (n + 1) * 5 - (k * 5 + 5) = (n - k) * 5 by omega] at this
    exact this
  have e3 : ((ds.take k).flatMap Sw.Deal.enc ++ Sw.Deal.enc d).length = k * 5 + 5 := by rw [List.length_append, lenD, fl5]; simp; omega
  rw [e1, List.flatMap_append, List.flatMap_cons, ← e2, lenD, List.take_append, List.take_of_length_le (by rw [e3]; omega), e3, show (n + 1) * 5 - (k * 5 + 5) = (n - k) * 5 by omega, List.append_assoc]
/-- Elements of an owned slice written over. -/
theorem Ow.splice {w : World} {lo c n j g : Nat} {xs : List Sw.Deal} (h : OwD w lo (some ⟨g, 0, none⟩) c n xs) (ys : List Sw.Deal) (hj : j + ys.length ≤ n) :
    OwD (w.setCells g (j * 5) (ys.flatMap Sw.Deal.enc)) lo (some ⟨g, 0, none⟩) c n (xs.take j ++ (ys ++ xs.drop (j + ys.length))) := by
  have hl := h.1
  have hle := h.rs.2.le
  have hF := fl5 ys
  refine h.over (m := n) (ys := xs.take j ++ (ys ++ xs.drop (j + ys.length))) hle (by omega) (by simp; omega) (fun cur hc ht => ?_) (by rw [fl5]; simp; omega)
  have e1 : cur.take (j * 5) = (xs.take j).flatMap Sw.Deal.enc := by
    rw [← ft5, ← ht, List.take_take, Nat.min_eq_left (by omega)]
  have e2 : (cur.drop (j * 5 + ys.length * 5)).take ((n - (j + ys.length)) * 5) = (xs.drop (j + ys.length)).flatMap Sw.Deal.enc := by
    have := congrArg (List.drop ((j + ys.length) * 5)) ht
    rw [List.drop_take, fd5, show (j + ys.length) * 5 = j * 5 + ys.length * 5 by omega, show n * 5 - (j * 5 + ys.length * 5) = (n - (j + ys.length)) * 5 by omega] at this
    exact this
  have e3 : ((xs.take j).flatMap Sw.Deal.enc ++ ys.flatMap Sw.Deal.enc).length = j * 5 + ys.length * 5 := by rw [List.length_append, fl5, fl5]; simp; omega
  rw [e1, List.flatMap_append, List.flatMap_append, ← e2, hF, List.take_append, List.take_of_length_le (by rw [e3]; omega), e3, show n * 5 - (j * 5 + ys.length * 5) = (n - (j + ys.length)) * 5 by omega, List.append_assoc]
theorem zeroD (m : Nat) : (Builtin.zeroCells #[.int .i64 0, .int .i64 0, .int .i64 0, .int .i64 0, .int .i64 0] m).toList = (List.replicate m Sw.dealZ).flatMap Sw.Deal.enc := madeCells_flat (enc := Sw.Deal.enc) (sz := 5) Sw.dealZ rfl (by omega) m
/-- A new row: some deals, then free ones. -/
theorem Ow.grownD (w : World) (olds : List Sw.Deal) (m G : Nat) (hG : olds.length + m ≤ G) (hm : G ≤ maxLen) :
    OwD (w.alloc (.cells ((olds.flatMap Sw.Deal.enc).toArray ++ Builtin.zeroCells #[.int .i64 0, .int .i64 0, .int .i64 0, .int .i64 0, .int .i64 0] m ++ Builtin.zeroCells #[.int .i64 0, .int .i64 0, .int .i64 0, .int .i64 0, .int .i64 0] (G - (olds.length + m))) 38)) w.heap.size (some ⟨w.heap.size, 0, none⟩) G (olds.length + m) (olds ++ List.replicate m Sw.dealZ) := by
  have hz : ∀ m, (Builtin.zeroCells #[.int .i64 0, .int .i64 0, .int .i64 0, .int .i64 0, .int .i64 0] m).size = m * 5 := fun m => by
    rw [← Array.length_toList, zeroD, fl5]; simp
  have hl : ((olds ++ List.replicate m Sw.dealZ).flatMap Sw.Deal.enc).length = (olds.length + m) * 5 := by rw [fl5]; simp
  refine ⟨by simp, hl, .inr ⟨w.heap.size, G, _, rfl, Nat.le_refl _, heap_alloc_new w _, hG, hm, ?_, ?_⟩⟩
  · simp only [Array.size_append, List.size_toArray, hz, fl5]; omega
  · simp only [Array.toList_append, zeroD]
    rw [← List.flatMap_append, List.take_append_of_le_length (by rw [hl]; exact Nat.le_refl _), List.take_of_length_le (by rw [hl]; exact Nat.le_refl _)]
theorem grow_list {α : Type} {k n : Nat} (ds : List α) (d z : α) (hl : ds.length = n) (hk : k ≤ n) :
    ((ds.take k ++ List.replicate (n + 1 - k) z).take k ++ ([d] ++ (ds.take k ++ List.replicate (n + 1 - k) z).drop (k + [d].length))).take (k + 1) ++ (ds.drop k ++ ((ds.take k ++ List.replicate (n + 1 - k) z).take k ++ ([d] ++ (ds.take k ++ List.replicate (n + 1 - k) z).drop (k + [d].length))).drop (k + 1 + (ds.drop k).length)) = ds.take k ++ d :: ds.drop k := by
  have htl : (ds.take k).length = k := by rw [List.length_take]; omega
  have e1 : (ds.take k ++ List.replicate (n + 1 - k) z).take k = ds.take k := by
    rw [List.take_append_of_le_length (Nat.le_of_eq htl.symm), List.take_of_length_le (Nat.le_of_eq htl)]
  rw [e1]
  obtain ⟨Y, hY⟩ : ∃ Y, Y = (ds.take k ++ List.replicate (n + 1 - k) z).drop (k + [d].length) := ⟨_, rfl⟩
  have hYl : Y.length = n - k := by rw [hY]; simp; omega
  rw [← hY, ← List.append_assoc (ds.take k) [d] Y]
  have hXl : (ds.take k ++ [d]).length = k + 1 := by rw [List.length_append, htl]; rfl
  have e3 : (ds.take k ++ [d] ++ Y).drop (k + 1 + (ds.drop k).length) = [] := List.drop_of_length_le (by rw [List.length_append, hXl, hYl, List.length_drop, hl]; exact Nat.le_refl _)
  rw [e3, List.take_append_of_le_length (Nat.le_of_eq hXl.symm), List.take_of_length_le (Nat.le_of_eq hXl), List.append_nil, List.append_assoc]
  rfl
theorem iInsert_c (A : Option Addr) (c n k lo gv : Nat) (ds : List Sw.Deal) (d : Sw.Deal) (w : World) (h : OwD w lo A c n ds) (hk : k ≤ n) (hn : n ≤ 4194303) (hv : RDl w 0 (some ⟨gv, 0, none⟩) 1 1 [d]) (hvl : Lb w gv 5) (hne : ∀ a, A = some a → a.block ≠ gv) (hlo : lo ≤ w.heap.size) :
    Calls Try.prog 93 #[.slice A n c, .int .i64 k, .slice (some ⟨gv, 0, none⟩) 1 1] w fun E w' =>
    ∃ A' c', E = .returned (.slice A' (n + 1) c') ∧ OwD w' lo A' c' (n + 1) (ds.take k ++ d :: ds.drop k) ∧ Ch (atA A) w w' ∧ (∀ b, A' = some b → A = some b ∨ w.heap.size ≤ b.block) := by
  have hle := h.rs.2.le
  have hcb := h.rs.2.cap
  have l3 := h.1
  unfold maxLen at hcb
  have z0 : (0 : Int) ≤ (k : Int) := by omega
  have z1 : (k : Int) ≤ (n : Int) := by omega
  have z5 : (n : Int) ≤ (c : Int) := by omega
  have z4 : (k : Int) ≤ (c : Int) := by omega
  by_cases hkn : k = n
  · subst hkn
    have hH := Lib.hid h
    have hV := Lib.hid hv
    have e : ds.take k ++ d :: ds.drop k = ds ++ [d] := by rw [List.take_of_length_le (by omega), List.drop_of_length_le (by omega)]
    rw [e]
    clear e h hv
    have l4 := Lib.hid l3
    clear l3 hvl
    rcases hH.out.form with ⟨rfl, hn0, hc0⟩ | ⟨g, cur, rfl, -⟩
    · subst hn0 hc0
      go_enter Try.func93, Try.ntmps93
      go_wp2_with (at_builtin; apply wpList_app (lo := lo) el_D one_D rfl rfl rfl rfl; (exact hH.out.keep (by (exact kf_))); (exact hV.out.keep (by (exact kf_))); omega; (exact sz_); intro A1 c1 w2 ho1 hch1 hat1 hex1 hlow1)
      go_ret
      exact ⟨A1, c1, rfl, ho1, hch1, hat1⟩
    · go_enter Try.func93, Try.ntmps93
      go_wp2_with (at_builtin; apply wpList_app (lo := lo) el_D one_D rfl rfl rfl rfl; (exact hH.out.keep (by (exact kf_))); (exact hV.out.keep (by (exact kf_))); omega; (exact sz_); intro A1 c1 w2 ho1 hch1 hat1 hex1 hlow1)
      all_goals (go_ret; exact ⟨A1, c1, rfl, ho1, hch1, fun b hb => by simpa using hat1 b hb⟩)
  have hkn : k < n := by omega
  rcases h.form with ⟨_, h0, _⟩ | ⟨g, cur, rfl, hlo', hltg, hhg, _, _, hsz, _⟩
  · omega
  have hgv : gv ≠ g := fun e => hne _ rfl e.symm
  have hth := h.there
  obtain ⟨cv, tv, hcv, hcvs⟩ := hvl
  have hsa : w.shape? gv = some (tv, 5) := by simp [World.shape?, hcv, hcvs]
  have hsb : w.shape? g = some (38, c * 5) := by simp [World.shape?, hhg, hsz]
  have hzz : ¬ ((k : Int) == (n : Int)) = true := by simp; omega
  have hov : ∀ lb cb, (callFunc 111 #[.slice (some ⟨gv, 0, none⟩) 1 1, .slice (some ⟨g, (k + 1) * 5, none⟩) lb cb]).run Try.prog w = .ok (.value (.bool false)) w := fun lb cb => by
    rw [run_callFunc_extern Try.func111 (by kernel_rfl) (by kernel_rfl) (by kernel_rfl) (e := Extern.SlicesOverlaps.overlaps #[25, 25] #[4]) (by kernel_rfl),
      Lib.run_overlaps_apart w 25 4 38 el_D.sl 5 (fun w => by simp [go_sem]) ⟨gv, 0, none⟩ ⟨g, (k + 1) * 5, none⟩ 1 1 lb cb hgv tv 38 5 (c * 5) hsa hsb (by omega) (by simp [World.frozen?, hcv]) (by simp [World.frozen?, hcv])]
    rfl
  have hs2 := h.rs.drop (fun _ => rfl) (k := k) (by omega)
  have hcv5 := hv.2.cells _ rfl (by omega)
  obtain ⟨_, _, hgvl, hvc⟩ := hcv5
  replace hgvl : gv < w.heap.size := hgvl
  by_cases hroom : n + 1 ≤ c
  · rw [if_neg (by omega)] at hs2
    simp only [Option.map_some, Addr.add_lit, Nat.zero_add] at hs2
    have hdl : ((ds.drop k).flatMap Sw.Deal.enc).length = (n - k) * 5 := by rw [fl5]; simp; omega
    have hcp1 : ∀ ty dc sc, (Builtin.copy_ #[25, 25] ty #[.slice (some ⟨g, (k + 1) * 5, none⟩) (n + 1 - (k + 1)) dc, .slice (some ⟨g, k * 5, none⟩) (n + 1 - k) sc]).run Try.prog w.drew = .ok (goInt (Nat.min (n + 1 - k) (n + 1 - (k + 1)))) (w.drew.setCells g ((k + 1) * 5) ((ds.drop k).flatMap Sw.Deal.enc)) := fun ty dc sc =>
      run_copy_cellsK w.drew _ _ ty 38 5 g ((k + 1) * 5) (n + 1 - (k + 1)) dc ⟨g, k * 5, none⟩ (n + 1 - k) sc _ el_D.sl (by kernel_rfl) (by rw [hdl, show Nat.min (n + 1 - k) (n + 1 - (k + 1)) = n - k from by simp only [Nat.min_def]; split <;> omega])
        (fun j v hj => by rw [Addr.add_lit]; exact (hs2.2.cells _ rfl (by omega)).2.2.2 j v hj) (fun j hj => hth.1 _ (by omega)) (fun j hj => hth.2 _) (fun v hv => by
          obtain ⟨y, _, hy⟩ := List.mem_flatMap.1 hv
          exact one_D y v hy)
    obtain ⟨cur', hc1, hc2, -⟩ := heap_setCells_same ((ds.drop k).flatMap Sw.Deal.enc) ((k + 1) * 5) w.drew cur hhg (by omega)
    have hcp2 : ∀ ty dc, (Builtin.copy_ #[25, 25] ty #[.slice (some ⟨g, k * 5, none⟩) (n + 1 - k) dc, .slice (some ⟨gv, 0, none⟩) 1 1]).run Try.prog (w.drew.setCells g ((k + 1) * 5) ((ds.drop k).flatMap Sw.Deal.enc)) = .ok (goInt (Nat.min 1 (n + 1 - k))) ((w.drew.setCells g ((k + 1) * 5) ((ds.drop k).flatMap Sw.Deal.enc)).setCells g (k * 5) (Sw.Deal.enc d)) := fun ty dc =>
      run_copy_cellsK _ _ _ ty 38 5 g (k * 5) (n + 1 - k) dc ⟨gv, 0, none⟩ 1 1 _ el_D.sl (by kernel_rfl) (by rw [lenD, show Nat.min 1 (n + 1 - k) = 1 from by simp only [Nat.min_def]; split <;> omega])
        (fun j v hj => by
          rw [Addr.add_lit]
          exact (World.cell?_of_block (w := w.drew) (a := ⟨gv, 0 + j, none⟩) (heap_setCells_ne hgv _ _ w.drew)).trans (hvc j v (by simpa using hj)))
        (fun j hj => by rw [lenD] at hj; simp [World.cell?, hc1, show k * 5 + j < cur'.size by omega]) (fun j hj => by simp [World.frozen?, hc1]) (fun v hv => one_D d v hv)
    have HF := Lib.hid (And.intro (Ow.shifted (d := d) (h.keep (by (exact kf_) : KF lo w w.drew)) hkn hroom) (Ch.setCells (S := atA (some ⟨g, 0, none⟩)) (.inl ⟨_, rfl, rfl⟩) (Sw.Deal.enc d) (k * 5) _ (Ch.setCells (.inl ⟨_, rfl, rfl⟩) ((ds.drop k).flatMap Sw.Deal.enc) ((k + 1) * 5) _ (cD (cR _ w)))))
    have HC2 := Lib.hid hcp2
    clear hcp2 hc1 hc2 cur'
    clear hs2 hhg hsz hsa hsb hcv hcvs hth hvc
    have hH := Lib.hid h
    have hV := Lib.hid hv
    have HOV := Lib.hid hov
    have HC := Lib.hid hcp1
    clear h hv hov hcp1 hdl l3
    have z6 : (n : Int) + 1 ≤ (c : Int) := by omega
    have z7 : ((k : Int) == (n : Int)) = false := by simp; omega
    have z8 : (0 : Int) ≤ (n : Int) + 1 := by omega
    have z9 : (0 : Int) ≤ (k : Int) + 1 := by omega
    have z10 : (k : Int) + 1 ≤ (n : Int) + 1 := by omega
    have z11 : (k : Int) ≤ (n : Int) + 1 := by omega
    have z12 : ((n : Int) + 1).toNat = n + 1 := by omega
    have z13 : ((k : Int) + 1).toNat = k + 1 := by omega
    have z14 : ¬ c = k + 1 := by omega
    have z15 : ¬ c = k := by omega
    have z16 : IntKind.i64.wrap ((k : Int) + 1) = (k : Int) + 1 := IntWalk.i64_in _ (by omega)
    have z17 : IntKind.i64.wrap ((n : Int) + 1) = (n : Int) + 1 := IntWalk.i64_in _ (by omega)
    clear hzz
    go_enter Try.func93, Try.ntmps93
    go_wp2_with (simp only [HOV.out])
    go_region_law (refine step_copyK rfl rfl (by simp [Act.eval, Act.put]; done) (by simp [Act.eval, Act.put]; done) (HC.out _ (c - (k + 1)) (c - k)) ?_)
    all_goals
      go_wp2_with (simp only [HC2.out])
      go_ret
      exact ⟨_, _, rfl, HF.out.1, HF.out.2, fun b hb => .inl (by simpa using hb)⟩
  · obtain rfl : c = n := by omega
    rw [if_neg (by omega)] at hs2
    simp only [Option.map_some, Addr.add_lit, Nat.zero_add] at hs2
    have hdl : ((ds.drop k).flatMap Sw.Deal.enc).length = (c - k) * 5 := by rw [fl5]; simp; omega
    have hfr := (Ow.front h (fun _ => rfl) (k := k) (by omega)).rs
    obtain ⟨i0, hi0, hz0, hzs, hzb⟩ := info_parts (P := Try.prog) (e := 38) (z := .agg #[.int .i64 0, .int .i64 0, .int .i64 0, .int .i64 0, .int .i64 0]) (size := 5) (bytes := 40) (by kernel_rfl)
    have hold : (Builtin.firstCells i0.size k (.slice (some ⟨g, 0, none⟩) k c)).run Try.prog w.drew = .ok ((ds.take k).flatMap Sw.Deal.enc).toArray w.drew := by
      rw [hzs]
      refine run_firstCells_some w.drew 5 k ⟨g, 0, none⟩ k c _ (by rw [fl5]; simp; omega) (fun j v hj => ?_)
      rw [Addr.add_lit]
      have hk0 : 0 < k := by
        rcases Nat.eq_zero_or_pos k with h0 | h0
        · subst h0; simp at hj
        · exact h0
      exact (hfr.2.cells _ rfl hk0).2.2.2 j v hj
    obtain ⟨G, hG⟩ : ∃ G, G = grownCap w (c + 1) c 38 := ⟨_, rfl⟩
    have hGn : c + 1 ≤ G := by rw [hG]; exact grownCap_ge w _ _ _
    have hGm : G ≤ maxLen := by rw [hG]; exact grownCap_le_maxLen w (c + 1) c _ (by unfold maxLen; omega)
    have htl : (ds.take k).length = k := by simp; omega
    have hkk : (c : Int) + 1 - (k : Int) = ((c + 1 - k : Nat) : Int) := by omega
    have hik : k + (c + 1 - k) = c + 1 := by omega
    have hN := Ow.grownD w.drew (ds.take k) (c + 1 - k) G (by omega) hGm
    rw [htl, hik] at hN
    obtain ⟨W1, hW1⟩ : ∃ W1, W1 = w.drew.alloc (.cells (((ds.take k).flatMap Sw.Deal.enc).toArray ++ Builtin.zeroCells #[.int .i64 0, .int .i64 0, .int .i64 0, .int .i64 0, .int .i64 0] (c + 1 - k) ++ Builtin.zeroCells #[.int .i64 0, .int .i64 0, .int .i64 0, .int .i64 0, .int .i64 0] (G - (c + 1))) 38) := ⟨_, rfl⟩
    have hrz : ∀ ty, (Builtin.append_ #[25, 3] ty #[.slice (some ⟨g, 0, none⟩) k c, .int .i64 ((c : Int) + 1 - (k : Int))]).run Try.prog w = .ok (.slice (some ⟨w.heap.size, 0, none⟩) (c + 1) G) W1 := fun ty => by
      have h := Lib.run_append_grow_zeros w 25 3 ty 38 i0 _ .i64 .i64 el_D.sl (by kernel_rfl) hi0 hz0 (some ⟨g, 0, none⟩) k c _ hold (c + 1 - k) (by omega) (by omega) (by omega) (by omega) (by rw [hzb]; omega) (by rw [hzb, hik]; exact growslice_fits (by omega) (by omega))
      rw [hik, ← hG] at h
      rw [hkk, hW1]
      exact h
    rw [← hW1] at hN
    have hs1 : W1.heap.size = w.heap.size + 1 := by rw [hW1]; simp
    have hb1 : Ex w W1 := by rw [hW1]; exact cA (cD (cR _ _))
    have hN' : OwD W1 w.heap.size (some ⟨w.heap.size, 0, none⟩) G (c + 1) (ds.take k ++ List.replicate (c + 1 - k) Sw.dealZ) := hN
    have hN2 := Ow.splice hN' (j := k) [d] (by simp; omega)
    have hC2 : Ch (atA (some ⟨g, 0, none⟩)) w (W1.setCells w.heap.size (k * 5) ([d].flatMap Sw.Deal.enc)) := Ch.setCells (.inr (Nat.le_refl _)) _ _ _ (cE hb1 (cR _ _))
    have hn2 : ∀ b, b ≠ w.heap.size → (W1.setCells w.heap.size (k * 5) ([d].flatMap Sw.Deal.enc)).heap[b]? = W1.heap[b]? := fun b hb => heap_setCells_ne hb _ _ _
    obtain ⟨W2, hW2⟩ : ∃ W2, W2 = W1.setCells w.heap.size (k * 5) ([d].flatMap Sw.Deal.enc) := ⟨_, rfl⟩
    rw [← hW2] at hN2 hC2 hn2
    have hN2d : OwD W2.drew w.heap.size (some ⟨w.heap.size, 0, none⟩) G (c + 1) _ := hN2.keep (kD (kR _ _))
    have hN3 := Ow.splice hN2d (j := k + 1) (ds.drop k) (by simp; omega)
    have hlist := grow_list ds d Sw.dealZ l3.symm hk
    rw [hlist] at hN3
    have hgN : g ≠ w.heap.size := by omega
    have hgvN : gv ≠ w.heap.size := by omega
    have hcpA : ∀ ty dc, (Builtin.copy_ #[25, 25] ty #[.slice (some ⟨w.heap.size, k * 5, none⟩) (c + 1 - k) dc, .slice (some ⟨gv, 0, none⟩) 1 1]).run Try.prog W1 = .ok (goInt (Nat.min 1 (c + 1 - k))) W2 := fun ty dc => by
      rw [hW2]
      exact run_copy_cellsK _ _ _ ty 38 5 w.heap.size (k * 5) (c + 1 - k) dc ⟨gv, 0, none⟩ 1 1 _ el_D.sl (by kernel_rfl) (by rw [fl5, show Nat.min 1 (c + 1 - k) = 1 from by simp only [Nat.min_def]; split <;> omega]; rfl)
        (fun j v hj => by rw [Addr.add_lit]; exact (hb1.cell (p := ⟨gv, 0 + j, none⟩) hgvl (fun h => h)).trans (hvc j v hj))
        (fun j hj => by rw [fl5] at hj; exact hN'.there.1 _ (by simp at hj; omega)) (fun j hj => hN'.there.2 _) (fun v hv => by
          obtain ⟨y, _, hy⟩ := List.mem_flatMap.1 hv
          exact one_D y v hy)
    have hcpB : ∀ ty dc sc, (Builtin.copy_ #[25, 25] ty #[.slice (some ⟨w.heap.size, (k + 1) * 5, none⟩) (c + 1 - (k + 1)) dc, .slice (some ⟨g, k * 5, none⟩) (c - k) sc]).run Try.prog W2.drew = .ok (goInt (Nat.min (c - k) (c + 1 - (k + 1)))) (W2.drew.setCells w.heap.size ((k + 1) * 5) ((ds.drop k).flatMap Sw.Deal.enc)) := fun ty dc sc =>
      run_copy_cellsK _ _ _ ty 38 5 w.heap.size ((k + 1) * 5) (c + 1 - (k + 1)) dc ⟨g, k * 5, none⟩ (c - k) sc _ el_D.sl (by kernel_rfl) (by rw [hdl, show Nat.min (c - k) (c + 1 - (k + 1)) = c - k from by simp only [Nat.min_def]; split <;> omega])
        (fun j v hj => by
          rw [Addr.add_lit]
          refine (World.cell?_of_block (w' := W2.drew) (w := W1) (a := ⟨g, k * 5 + j, none⟩) (hn2 g hgN)).trans ?_
          exact (hb1.cell (p := ⟨g, k * 5 + j, none⟩) hltg (fun h => h)).trans ((hs2.2.cells _ rfl (by omega)).2.2.2 j v hj))
        (fun j hj => hN2d.there.1 _ (by omega)) (fun j hj => hN2d.there.2 _) (fun v hv => by
          obtain ⟨y, _, hy⟩ := List.mem_flatMap.1 hv
          exact one_D y v hy)
    have hCh : Ch (atA (some ⟨g, 0, none⟩)) w (W2.drew.setCells w.heap.size ((k + 1) * 5) ((ds.drop k).flatMap Sw.Deal.enc)) :=
      Ch.setCells (.inr (Nat.le_refl _)) _ _ _ (cD hC2)
    have HA := Lib.hid hcpA
    have HB := Lib.hid hcpB
    have HZ := Lib.hid hrz
    have HF := Lib.hid (And.intro (hN3.less hlo) hCh)
    clear hcpA hcpB hrz hN3 hCh hN2d hN2 hC2 hn2 hW2 hN' hN hlist hW1 hold hi0 hz0 hzs hzb hG hb1 hs1 hs2 hfr hdl hkk hik htl hvc hth hhg hsz hsa hsb hcv hcvs h hv hov hne
    have z6 : (c : Int) < (c : Int) + 1 := by omega
    have z7 : ((k : Int) == (c : Int)) = false := by simp; omega
    have z9 : (0 : Int) ≤ (k : Int) + 1 := by omega
    have z10 : (k : Int) + 1 ≤ (c : Int) + 1 := by omega
    have z11 : (k : Int) ≤ (c : Int) + 1 := by omega
    have z13 : ((k : Int) + 1).toNat = k + 1 := by omega
    have z14 : ¬ G = k + 1 := by omega
    have z15 : ¬ G = k := by omega
    have z18 : ¬ c = k := by omega
    have z16 : IntKind.i64.wrap ((k : Int) + 1) = (k : Int) + 1 := IntWalk.i64_in _ (by omega)
    clear hzz l3
    go_enter Try.func93, Try.ntmps93
    go_wp2_with (first | (at_builtin; refine Lib.wpList_append_run _ rfl _ _ _ _ rfl _ _ rfl rfl _ _ (HZ.out _) ?_) | (simp only [HA.out]))
    go_region_law (refine step_copyK rfl rfl (by simp [Act.eval, Act.put]; done) (by simp [Act.eval, Act.put]; done) (HB.out _ (G - (k + 1)) (c - k)) ?_)
    all_goals
      go_wp2
      go_ret
      exact ⟨_, _, rfl, HF.out.1, HF.out.2, fun b hb => .inr (by injection hb with hb; rw [← hb]; exact Nat.le_refl _)⟩
end Go.Proofs.Ytimpagcanengoaa

namespace Go.Proofs.Ytimpagcanengoaa
set_option maxRecDepth 100000
set_option linter.unusedSimpArgs false
set_option linter.unusedVariables false
open Go.RowKit Go
set_option maxHeartbeats 400000

theorem sumFrom_cons (s x : Int) (xs : List Int) : Sw.sumFrom s (x :: xs) = Sw.sumFrom (wrap64 (s + x)) xs := rfl
theorem heldFrom_cons (s : Int) (d : Sw.Deal) (ds : List Sw.Deal) : Sw.heldFrom s (d :: ds) = Sw.heldFrom (Sw.heldStep s d) ds := rfl
theorem heldStep_y {s : Int} {d : Sw.Deal} (h : 0 < d.buyer) : Sw.heldStep s d = wrap64 (s + d.price) := by simp [Sw.heldStep, Sw.held, h]
theorem heldStep_n {s : Int} {d : Sw.Deal} (h : ¬ 0 < d.buyer) : Sw.heldStep s d = s := by simp [Sw.heldStep, Sw.held, h]

theorem sMonSum_c (A : Option Addr) (c n : Nat) (xs : List Int) (w : World) (hxs : RI w 0 A c n xs) : Calls Try.prog 53 #[.slice A n c] w fun E w' => E = .returned (.int .i64 (Sw.monSum xs)) ∧ w = w' := by
  have hl := Lib.hid hxs.1
  have hbig := Rs.big hxs
  go_enter Try.func53, Try.ntmps53
  go_wp2
  go_loop [3, 4] (fun v i => ∃ (k : Nat) (s : Int), k ≤ n ∧ i = .int .i64 k ∧ v = .int .i64 s ∧ Sw.monSum xs = Sw.sumFrom s (xs.drop k)) (fun _ i => n - (intOf i).toNat)
  case atStart => exact ⟨0, 0, Nat.zero_le _, rfl, rfl, rfl⟩
  case round =>
    obtain ⟨k, s, hk, rfl, rfl, hrel⟩ := hrel
    by_cases hlt : k < n
    · obtain ⟨g, off, y, rfl, hg0, hg, hd, hy, hc⟩ := at_I hxs hlt
      rw [hd, sumFrom_cons] at hrel
      have Hrel := Lib.hid hrel; clear hrel hd hy
      go_wp2
      go_round
      case rel => exact ⟨k + 1, _, by omega, by go_num, rfl, Hrel.out⟩
      case measure => simp [intOf]; omega
    · have Hrel := Lib.hid hrel; clear hrel
      go_wp2
      go_ret
      refine ⟨ret_i ?_, rfl⟩
      rw [Hrel.out, List.drop_of_length_le (by have := hl.out; omega)]
      rfl
theorem iMonSum_c (A : Option Addr) (c n : Nat) (xs : List Int) (w : World) (hxs : RI w 0 A c n xs) : Calls Try.prog 20 #[.slice A n c] w fun E w' => E = .returned (.int .i64 (Sw.monSum xs)) ∧ w = w' := by
  have hl := Lib.hid hxs.1
  have hbig := Rs.big hxs
  go_enter Try.func20, Try.ntmps20
  go_wp2
  go_loop [3, 8] (fun v i => ∃ (k : Nat) (s : Int), k ≤ n ∧ i = .int .i64 k ∧ v = .int .i64 s ∧ Sw.monSum xs = Sw.sumFrom s (xs.drop k)) (fun _ i => n - (intOf i).toNat)
  case atStart => exact ⟨0, 0, Nat.zero_le _, rfl, rfl, rfl⟩
  case round =>
    obtain ⟨k, s, hk, rfl, rfl, hrel⟩ := hrel
    by_cases hlt : k < n
    · obtain ⟨g, off, y, rfl, hg0, hg, hd, hy, hc⟩ := at_I hxs hlt
      rw [hd, sumFrom_cons] at hrel
      have Hrel := Lib.hid hrel; clear hrel hd hy
      go_wp2
      go_round
      case rel => exact ⟨k + 1, _, by omega, by go_num, rfl, Hrel.out⟩
      case measure => simp [intOf]; omega
    · have Hrel := Lib.hid hrel; clear hrel
      go_wp2
      go_ret
      refine ⟨ret_i ?_, rfl⟩
      rw [Hrel.out, List.drop_of_length_le (by have := hl.out; omega)]
      rfl

theorem iHeld_c (d : Sw.Deal) (w : World) : Calls Try.prog 48 #[.agg #[.int .i64 d.ticket, .int .i64 d.seller, .int .i64 d.price, .int .i64 d.buyer, .int .i64 d.due]] w fun E w' => E = .returned (.bool (Sw.held d)) ∧ Ex w w' := by
  go_enter Try.func48, Try.ntmps48
  go_wp2_with fail
  go_ret
  exact ⟨rfl, ext_⟩

theorem sMktHeld_c (aL : Option Addr) (aLc aLn : Nat) (aP : Option Addr) (aPc aPn : Nat) (aD : Option Addr) (aDc aDn : Nat) (aN : Option Addr) (aNc aNn : Nat) (aS : Option Addr) (aSc aSn : Nat) (m : Sw.Mkt) (w : World) (hm : RM w 0 aL aLc aLn aP aPc aPn aD aDc aDn aN aNc aNn aS aSc aSn m) : Calls Try.prog 54 #[.agg #[.slice aL aLn aLc, .slice aP aPn aPc, .slice aD aDn aDc, .int .i64 m.clock, .slice aN aNn aNc, .slice aS aSn aSc]] w fun E w' => E = .returned (.int .i64 (Sw.mktHeld m)) ∧ Ex w w' := by
  have hxs := hm.deals
  clear hm
  have hl := Lib.hid hxs.1
  have hbig := Rs.big hxs
  go_enter Try.func54, Try.ntmps54
  go_wp2_with fail
  go_loop [3, 4] (fun v i => ∃ (k : Nat) (s : Int), k ≤ aDn ∧ i = .int .i64 k ∧ v = .int .i64 s ∧ Sw.mktHeld m = Sw.heldFrom s (m.deals.drop k)) (fun _ i => aDn - (intOf i).toNat)
  case atStart => exact ⟨0, 0, Nat.zero_le _, rfl, rfl, rfl⟩
  case round =>
    obtain ⟨k, s, hk, rfl, rfl, hrel⟩ := hrel
    by_cases hlt : k < aDn
    · obtain ⟨g, off, y, rfl, hg0, hg, hd, hy, q0, q1, q2, q3, q4⟩ := at_D hxs hlt
      rw [hd, heldFrom_cons] at hrel
      have Hrel := Lib.hid hrel; clear hrel hd hy
      by_cases hb : 0 < y.buyer
      · go_wp2
        go_round
        case rel => exact ⟨k + 1, _, by omega, by go_num, rfl, by rw [Hrel.out, heldStep_y hb]⟩
        case measure => simp [intOf]; omega
      · go_wp2
        go_round
        case rel => exact ⟨k + 1, _, by omega, by go_num, rfl, by rw [Hrel.out, heldStep_n hb]⟩
        case measure => simp [intOf]; omega
    · have Hrel := Lib.hid hrel; clear hrel
      go_wp2
      go_ret
      refine ⟨ret_i ?_, ext_⟩
      rw [Hrel.out, List.drop_of_length_le (by have := hl.out; omega)]
      rfl
theorem iMktHeld_c (aL : Option Addr) (aLc aLn : Nat) (aP : Option Addr) (aPc aPn : Nat) (aD : Option Addr) (aDc aDn : Nat) (aN : Option Addr) (aNc aNn : Nat) (aS : Option Addr) (aSc aSn : Nat) (m : Sw.Mkt) (w : World) (hm : RM w 0 aL aLc aLn aP aPc aPn aD aDc aDn aN aNc aNn aS aSc aSn m) : Calls Try.prog 19 #[.agg #[.slice aL aLn aLc, .slice aP aPn aPc, .slice aD aDn aDc, .int .i64 m.clock, .slice aN aNn aNc, .slice aS aSn aSc]] w fun E w' => E = .returned (.int .i64 (Sw.mktHeld m)) ∧ Ex w w' := by
  have hxs := hm.deals
  clear hm
  have hl := Lib.hid hxs.1
  have hbig := Rs.big hxs
  go_enter Try.func19, Try.ntmps19
  go_wp2_with fail
  go_loopw [3, 9] (fun v i wr => ∃ (k : Nat) (s : Int), k ≤ aDn ∧ i = .int .i64 k ∧ v = .int .i64 s ∧ Ex w wr ∧ Sw.mktHeld m = Sw.heldFrom s (m.deals.drop k)) (fun _ i _ => aDn - (intOf i).toNat)
  case atStart => exact ⟨0, 0, Nat.zero_le _, rfl, rfl, ext_, rfl⟩
  case round =>
    obtain ⟨k, s, hk, rfl, rfl, hb2, hrel⟩ := hrel
    have hst := Ex.rules hb2 rfl
    obtain ⟨hc2, hf2, hz2⟩ := hst
    by_cases hlt : k < aDn
    · obtain ⟨g, off, y, rfl, hg0, hg, hd, hy, q0, q1, q2, q3, q4⟩ := at_D hxs hlt
      rw [hd, heldFrom_cons] at hrel
      have Hrel := Lib.hid hrel; clear hrel hd hy
      cases hb : Sw.held y with
      | true =>
        go_wp2_with (go_at_call 48; apply Calls.mono; apply (iHeld_c y); rintro E w1 ⟨rfl, hb⟩; have hst := xr hb; (try simp only [zA, zC, zD, zN] at hst); obtain ⟨hc, hf, hz⟩ := hst)
        go_roundw
        case rel => exact ⟨k + 1, _, by omega, by go_num, rfl, ext_, by rw [Hrel.out, Sw.heldStep, if_pos (by assumption)]⟩
        case measure => simp [intOf]; omega
      | false =>
        go_wp2_with (go_at_call 48; apply Calls.mono; apply (iHeld_c y); rintro E w1 ⟨rfl, hb⟩; have hst := xr hb; (try simp only [zA, zC, zD, zN] at hst); obtain ⟨hc, hf, hz⟩ := hst)
        go_roundw
        case rel => exact ⟨k + 1, _, by omega, by go_num, rfl, ext_, by rw [Hrel.out, Sw.heldStep, if_neg (by simp [*])]⟩
        case measure => simp [intOf]; omega
    · have Hrel := Lib.hid hrel; clear hrel
      go_wp2_with fail
      go_ret
      refine ⟨ret_i ?_, ext_⟩
      rw [Hrel.out, List.drop_of_length_le (by have := hl.out; omega)]
      rfl
end Go.Proofs.Ytimpagcanengoaa

namespace Go.Proofs.Ytimpagcanengoaa
set_option maxRecDepth 100000
set_option linter.unusedSimpArgs false
set_option linter.unusedVariables false
open Go.RowKit Go
set_option maxHeartbeats 1000000

theorem iMonTurn_c (A : Option Addr) (c n : Nat) (xs : List Int) (who v : Int) (w : World) (hxs : RI w 0 A c n xs) (hn : n ≤ 4194304) : Calls Try.prog 75 #[.slice A n c, .int .i64 who, .int .i64 v] w fun E w' => ∃ A' c', E = .returned (.tuple #[.slice A' n c', .bool (Sw.turnMay xs who v)]) ∧ OwI w' w.heap.size A' c' n (Sw.monTurn xs who v) ∧ Ex w w' := by
  cases g1 : Sw.monOk xs
  case false =>
    have e : Sw.turnMay xs who v = false := by simp [Sw.turnMay, g1]
    rw [e, monTurn_n e]; clear e
    go_enter Try.func75, Try.ntmps75
    go_wp2_with (first | (go_at_call 74; apply Calls.mono; apply iCloneInts_c; ((first | (apply Rs.at0; assumption) | (apply Ow.rs0; assumption) | (apply OwT.rs0; assumption)); exact kf_); (first | assumption | omega); rintro E w1 ⟨A1, c1, rfl, ho1, hb⟩; have hst := xr hb; (try simp only [zA, zC, zD, zN] at hst); obtain ⟨hc, hf, hz⟩ := hst) | (go_at_call 29; apply Calls.mono; apply iMonOk_c; ((first | (apply Rs.at0; assumption) | (apply Ow.rs0; assumption) | (apply OwT.rs0; assumption)); exact kf_); rintro E w1 ⟨rfl, hb⟩; have hst := xr hb; (try simp only [zA, zC, zD, zN] at hst); obtain ⟨hc, hf, hz⟩ := hst))
    go_ret2
    exact ⟨A1, c1, rfl, (ho1.keep (by (exact kf_))).less (by exact sz_), ext_⟩
  have h5 := monOk_len g1
  have hn5 : n = 5 := by rw [hxs.1, h5]
  subst hn5
  clear h5
  cases g2 : Sw.inR who 1 5
  case false =>
    have e : Sw.turnMay xs who v = false := by simp [Sw.turnMay, g2]
    rw [e, monTurn_n e]; clear e
    go_enter Try.func75, Try.ntmps75
    go_wp2_with (first | (go_at_call 74; apply Calls.mono; apply iCloneInts_c; ((first | (apply Rs.at0; assumption) | (apply Ow.rs0; assumption) | (apply OwT.rs0; assumption)); exact kf_); (first | assumption | omega); rintro E w1 ⟨A1, c1, rfl, ho1, hb⟩; have hst := xr hb; (try simp only [zA, zC, zD, zN] at hst); obtain ⟨hc, hf, hz⟩ := hst) | (go_at_call 29; apply Calls.mono; apply iMonOk_c; ((first | (apply Rs.at0; assumption) | (apply Ow.rs0; assumption) | (apply OwT.rs0; assumption)); exact kf_); rintro E w1 ⟨rfl, hb⟩; have hst := xr hb; (try simp only [zA, zC, zD, zN] at hst); obtain ⟨hc, hf, hz⟩ := hst) | (go_at_call 69; refine (isUser_c _ _).mono ?_; rintro E w' ⟨rfl, rfl⟩) | (go_at_call 56; refine (in_c _ _ _ _).mono ?_; rintro E w' ⟨rfl, rfl⟩))
    go_ret2
    exact ⟨A1, c1, rfl, (ho1.keep (by (exact kf_))).less (by exact sz_), ext_⟩
  cases g3 : Sw.inR v (-100000) 100000
  case false =>
    have e : Sw.turnMay xs who v = false := by simp [Sw.turnMay, g3]
    rw [e, monTurn_n e]; clear e
    go_enter Try.func75, Try.ntmps75
    go_wp2_with (first | (go_at_call 74; apply Calls.mono; apply iCloneInts_c; ((first | (apply Rs.at0; assumption) | (apply Ow.rs0; assumption) | (apply OwT.rs0; assumption)); exact kf_); (first | assumption | omega); rintro E w1 ⟨A1, c1, rfl, ho1, hb⟩; have hst := xr hb; (try simp only [zA, zC, zD, zN] at hst); obtain ⟨hc, hf, hz⟩ := hst) | (go_at_call 29; apply Calls.mono; apply iMonOk_c; ((first | (apply Rs.at0; assumption) | (apply Ow.rs0; assumption) | (apply OwT.rs0; assumption)); exact kf_); rintro E w1 ⟨rfl, hb⟩; have hst := xr hb; (try simp only [zA, zC, zD, zN] at hst); obtain ⟨hc, hf, hz⟩ := hst) | (go_at_call 69; refine (isUser_c _ _).mono ?_; rintro E w' ⟨rfl, rfl⟩) | (go_at_call 56; refine (in_c _ _ _ _).mono ?_; rintro E w' ⟨rfl, rfl⟩))
    go_ret2
    exact ⟨A1, c1, rfl, (ho1.keep (by (exact kf_))).less (by exact sz_), ext_⟩
  have hw := Sw.inR_iff.1 g2
  have hv := Sw.inR_iff.1 g3
  obtain ⟨k, rfl⟩ : ∃ k : Nat, who = k + 1 := ⟨(who - 1).toNat, by omega⟩
  have hk : k < 5 := by omega
  obtain ⟨g, off, y, rfl, hg0, hg, hd, hy, hc0⟩ := at_I hxs hk
  have hyb : 0 ≤ y ∧ y ≤ 100000 := (Sw.monOk_iff.1 g1).2 y (List.mem_of_getElem? hy)
  have hpu := purse_at hy
  have Hpu := Lib.hid hpu
  have Hy := Lib.hid hy
  clear hd hy hpu
  obtain ⟨y0, y1⟩ := hyb
  obtain ⟨v0, v1⟩ := hv
  clear hw
  have t2 : IntKind.i64.wrap ((k : Int) + 1 - 1) = k := by rw [IntWalk.i64_in _ (by omega)]; omega
  cases g4 : Sw.inR (y + v) 0 100000
  case false =>
    have e : Sw.turnMay xs (k + 1) v = false := by simp [Sw.turnMay, Hpu.out, g4]
    rw [e, monTurn_n e]; clear e
    go_enter Try.func75, Try.ntmps75
    go_wp2_with (go_at_call 74; apply Calls.mono; apply iCloneInts_c; ((first | (apply Rs.at0; assumption) | (apply Ow.rs0; assumption) | (apply OwT.rs0; assumption)); exact kf_); (first | assumption | omega); rintro E w1 ⟨A1, c1, rfl, ho1, hb⟩; have hst := xr hb; (try simp only [zA, zC, zD, zN] at hst); obtain ⟨hc, hf, hz⟩ := hst)
    obtain ⟨g', x', hA, hlo, hlt, hx, hcx, hfz⟩ := at_OI ho1 hk
    obtain rfl : x' = y := by have := Hy.out; rw [hx] at this; exact Option.some.inj this
    subst hA
    clear hx
    go_wp2_with (first | (go_at_call 29; apply Calls.mono; apply iMonOk_c; ((first | (apply Rs.at0; assumption) | (apply Ow.rs0; assumption) | (apply OwT.rs0; assumption)); exact kf_); rintro E w1 ⟨rfl, hb⟩; have hst := xr hb; (try simp only [zA, zC, zD, zN] at hst); obtain ⟨hc, hf, hz⟩ := hst) | (go_at_call 69; refine (isUser_c _ _).mono ?_; rintro E w' ⟨rfl, rfl⟩) | (go_at_call 56; refine (in_c _ _ _ _).mono ?_; rintro E w' ⟨rfl, rfl⟩))
    go_ret2
    exact ⟨_, c1, rfl, (ho1.keep (by (exact kf_))).less (by exact sz_), ext_⟩
  have e : Sw.turnMay xs (k + 1) v = true := by simp [Sw.turnMay, g1, g2, g3, Hpu.out, g4]
  rw [e, monTurn_y e]; clear e
  go_enter Try.func75, Try.ntmps75
  go_wp2_with (go_at_call 74; apply Calls.mono; apply iCloneInts_c; ((first | (apply Rs.at0; assumption) | (apply Ow.rs0; assumption) | (apply OwT.rs0; assumption)); exact kf_); (first | assumption | omega); rintro E w1 ⟨A1, c1, rfl, ho1, hb⟩; have hst := xr hb; (try simp only [zA, zC, zD, zN] at hst); obtain ⟨hc, hf, hz⟩ := hst)
  obtain ⟨g', x', hA, hlo, hlt, hx, hcx, hfz⟩ := at_OI ho1 hk
  obtain rfl : x' = y := by have := Hy.out; rw [hx] at this; exact Option.some.inj this
  subst hA
  clear hx
  apply Calls.mono; apply iMonOk_c; (first | assumption | ((first | (apply Rs.at0; assumption) | (apply Ow.rs0; assumption) | (apply OwT.rs0; assumption)); exact kf_) | omega); rintro E w3 ⟨rfl, hb3⟩; have hst := xr hb3; (try simp only [zA, zC, zD] at hst); obtain ⟨hc3, hf3, hz3⟩ := hst
  have ho3 := Ow.keep ho1 (KF.ex hb3 (KF.refl _ _))
  go_wp2_with (first | (go_at_call 69; refine (isUser_c _ _).mono ?_; rintro E w' ⟨rfl, rfl⟩) | (go_at_call 56; refine (in_c _ _ _ _).mono ?_; rintro E w' ⟨rfl, rfl⟩))
  go_ret2
  refine ⟨_, _, rfl, ?_, ext_⟩
  have r := OI_set ho3 rfl Hy.out (x' + v)
  rw [Sw.turned, Hpu.out, show ((k : Int) + 1 - 1).toNat = k from by omega]
  exact r.less (by omega)

theorem iMonMove_c (A : Option Addr) (c n : Nat) (xs : List Int) (a b v : Int) (w : World) (hxs : RI w 0 A c n xs) (hn : n ≤ 4194304) : Calls Try.prog 110 #[.slice A n c, .int .i64 a, .int .i64 b, .int .i64 v] w fun E w' => ∃ A' c', E = .returned (.tuple #[.slice A' n c', .bool (Sw.moveMay xs a b v)]) ∧ OwI w' w.heap.size A' c' n (Sw.monMove xs a b v) ∧ Ex w w' := by
  cases g1 : Sw.inR v 0 100000
  case false =>
    have e : Sw.moveMay xs a b v = false := by simp [Sw.moveMay, g1]
    have e2 : Sw.monMove xs a b v = xs := by simp [Sw.monMove, e]
    rw [e, e2]; clear e e2
    go_enter Try.func110, Try.ntmps110
    go_wp2_with (first | (go_at_call 74; apply Calls.mono; apply iCloneInts_c; ((first | (apply Rs.at0; assumption) | (apply Ow.rs0; assumption) | (apply OwT.rs0; assumption)); exact kf_); (first | assumption | omega); rintro E w1 ⟨A1, c1, rfl, ho1, hb⟩; have hst := xr hb; (try simp only [zA, zC, zD, zN] at hst); obtain ⟨hc, hf, hz⟩ := hst) | (go_at_call 56; refine (in_c _ _ _ _).mono ?_; rintro E w' ⟨rfl, rfl⟩))
    go_ret2
    exact ⟨A1, c1, rfl, (ho1.keep (by (exact kf_))).less (by exact sz_), ext_⟩
  have hv := Sw.inR_iff.1 g1
  obtain ⟨v0, v1⟩ := hv
  by_cases g2 : a = b
  case pos =>
    have hab : (a == b) = true := by simp [g2]
    have e : Sw.moveMay xs a b v = false := by simp [Sw.moveMay, g2]
    have e2 : Sw.monMove xs a b v = xs := by simp [Sw.monMove, e]
    rw [e, e2]; clear e e2 g2
    go_enter Try.func110, Try.ntmps110
    go_wp2_with (first | (go_at_call 74; apply Calls.mono; apply iCloneInts_c; ((first | (apply Rs.at0; assumption) | (apply Ow.rs0; assumption) | (apply OwT.rs0; assumption)); exact kf_); (first | assumption | omega); rintro E w1 ⟨A1, c1, rfl, ho1, hb⟩; have hst := xr hb; (try simp only [zA, zC, zD, zN] at hst); obtain ⟨hc, hf, hz⟩ := hst) | (go_at_call 56; refine (in_c _ _ _ _).mono ?_; rintro E w' ⟨rfl, rfl⟩))
    go_ret2
    exact ⟨A1, c1, rfl, (ho1.keep (by (exact kf_))).less (by exact sz_), ext_⟩
  have hab : (a == b) = false := by simp [g2]
  cases g3 : Sw.turnMay xs a (-v)
  case false =>
    have e : Sw.moveMay xs a b v = false := by simp [Sw.moveMay, g3]
    have e2 : Sw.monMove xs a b v = xs := by simp [Sw.monMove, e]
    rw [e, e2]; clear e e2 g2
    go_enter Try.func110, Try.ntmps110
    go_wp2_with (first | (go_at_call 74; apply Calls.mono; apply iCloneInts_c; ((first | (apply Rs.at0; assumption) | (apply Ow.rs0; assumption) | (apply OwT.rs0; assumption)); exact kf_); (first | assumption | omega); rintro E w1 ⟨A1, c1, rfl, ho1, hb⟩; have hst := xr hb; (try simp only [zA, zC, zD, zN] at hst); obtain ⟨hc, hf, hz⟩ := hst) | (go_at_call 56; refine (in_c _ _ _ _).mono ?_; rintro E w' ⟨rfl, rfl⟩) | (go_at_call 75; apply Calls.mono; apply iMonTurn_c; ((first | (apply Rs.at0; assumption) | (apply Ow.rs0; assumption) | (apply OwT.rs0; assumption)); exact kf_); (first | assumption | omega); rintro E w1 ⟨A3, c3, rfl, ho3, hb⟩; have hst := xr hb; (try simp only [zA, zC, zD, zN] at hst); obtain ⟨hc, hf, hz⟩ := hst))
    go_ret2
    exact ⟨A1, c1, rfl, (ho1.keep (by (exact kf_))).less (by exact sz_), ext_⟩
  have e3 := monTurn_y g3
  have E3 := Lib.hid e3; clear e3
  cases g4 : Sw.turnMay (Sw.turned xs a (-v)) b v
  case false =>
    have e : Sw.moveMay xs a b v = false := by simp [Sw.moveMay, g4]
    have e2 : Sw.monMove xs a b v = xs := by simp [Sw.monMove, e]
    rw [e, e2]; clear e e2 g2
    go_enter Try.func110, Try.ntmps110
    go_wp2_with (first | (go_at_call 74; apply Calls.mono; apply iCloneInts_c; ((first | (apply Rs.at0; assumption) | (apply Ow.rs0; assumption) | (apply OwT.rs0; assumption)); exact kf_); (first | assumption | omega); rintro E w1 ⟨A1, c1, rfl, ho1, hb⟩; have hst := xr hb; (try simp only [zA, zC, zD, zN] at hst); obtain ⟨hc, hf, hz⟩ := hst) | (go_at_call 56; refine (in_c _ _ _ _).mono ?_; rintro E w' ⟨rfl, rfl⟩) | (go_at_call 75; apply Calls.mono; apply (iMonTurn_c (xs := Sw.turned xs a (-v))); (first | assumption | ((first | (apply Rs.at0; assumption) | (apply Ow.rs0; assumption) | (apply OwT.rs0; assumption)); exact kf_) | omega); omega; rintro E w4 ⟨A4, c4, rfl, ho4, hb⟩; have hst := xr hb; (try simp only [zA, zC, zD, zN] at hst); obtain ⟨hc, hf, hz⟩ := hst) | (go_at_call 75; apply Calls.mono; apply (iMonTurn_c (xs := xs)); (first | assumption | ((first | (apply Rs.at0; assumption) | (apply Ow.rs0; assumption) | (apply OwT.rs0; assumption)); exact kf_) | omega); omega; rintro E w3 ⟨A3, c3, rfl, ho3, hb⟩; rw [E3.out] at ho3; have hst := xr hb; (try simp only [zA, zC, zD, zN] at hst); obtain ⟨hc, hf, hz⟩ := hst))
    go_ret2
    exact ⟨A1, c1, rfl, (ho1.keep (by (exact kf_))).less (by exact sz_), ext_⟩
  have e : Sw.moveMay xs a b v = true := by simp [Sw.moveMay, g1, g2, g3, g4]
  have e2 : Sw.monMove xs a b v = Sw.turned (Sw.turned xs a (-v)) b v := by simp [Sw.monMove, e]
  have e4 := monTurn_y g4
  have E4 := Lib.hid e4; clear e4
  rw [e, e2]; clear e e2 g2
  go_enter Try.func110, Try.ntmps110
  go_wp2_with (first | (go_at_call 56; refine (in_c _ _ _ _).mono ?_; rintro E w' ⟨rfl, rfl⟩) | (go_at_call 75; apply Calls.mono; apply (iMonTurn_c (xs := Sw.turned xs a (-v))); (first | assumption | ((first | (apply Rs.at0; assumption) | (apply Ow.rs0; assumption) | (apply OwT.rs0; assumption)); exact kf_) | omega); omega; rintro E w4 ⟨A4, c4, rfl, ho4, hb⟩; rw [E4.out] at ho4; have hst := xr hb; (try simp only [zA, zC, zD, zN] at hst); obtain ⟨hc, hf, hz⟩ := hst) | (go_at_call 75; apply Calls.mono; apply (iMonTurn_c (xs := xs)); (first | assumption | ((first | (apply Rs.at0; assumption) | (apply Ow.rs0; assumption) | (apply OwT.rs0; assumption)); exact kf_) | omega); omega; rintro E w3 ⟨A3, c3, rfl, ho3, hb⟩; rw [E3.out] at ho3; have hst := xr hb; (try simp only [zA, zC, zD, zN] at hst); obtain ⟨hc, hf, hz⟩ := hst))
  go_ret2
  exact ⟨A4, c4, rfl, (ho4.keep (by (exact kf_))).less (by exact sz_), ext_⟩

theorem iReqOk_c (r : Sw.Req) (w : World) : Calls Try.prog 58 #[.agg #[.int .i64 r.user, .int .i64 r.n, .int .i64 r.kind, .int .i64 r.ticket, .int .i64 r.who, .int .i64 r.price]] w fun E w' => E = .returned (.bool (Sw.reqOk r)) ∧ Ex w w' := by
  cases g1 : Sw.inR r.user 1 5
  case false => go_enter Try.func58, Try.ntmps58; go_wp2_with (first | (go_at_call 56; refine (in_c _ _ _ _).mono ?_; rintro E w' ⟨rfl, rfl⟩) | (go_at_call 69; refine (isUser_c _ _).mono ?_; rintro E w' ⟨rfl, rfl⟩) | (go_at_call 79; refine (isTicket_c _ _).mono ?_; rintro E w' ⟨rfl, rfl⟩) | (go_at_call 61; refine (isFace_c _ _).mono ?_; rintro E w' ⟨rfl, rfl⟩)); go_ret; exact ⟨ret_b (by simp [Sw.reqOk, g1]), ext_⟩
  cases g2 : Sw.inR r.n 1 99999
  case false => go_enter Try.func58, Try.ntmps58; go_wp2_with (first | (go_at_call 56; refine (in_c _ _ _ _).mono ?_; rintro E w' ⟨rfl, rfl⟩) | (go_at_call 69; refine (isUser_c _ _).mono ?_; rintro E w' ⟨rfl, rfl⟩) | (go_at_call 79; refine (isTicket_c _ _).mono ?_; rintro E w' ⟨rfl, rfl⟩) | (go_at_call 61; refine (isFace_c _ _).mono ?_; rintro E w' ⟨rfl, rfl⟩)); go_ret; exact ⟨ret_b (by simp [Sw.reqOk, g2]), ext_⟩
  cases g3 : Sw.inR r.kind 1 6
  case false => go_enter Try.func58, Try.ntmps58; go_wp2_with (first | (go_at_call 56; refine (in_c _ _ _ _).mono ?_; rintro E w' ⟨rfl, rfl⟩) | (go_at_call 69; refine (isUser_c _ _).mono ?_; rintro E w' ⟨rfl, rfl⟩) | (go_at_call 79; refine (isTicket_c _ _).mono ?_; rintro E w' ⟨rfl, rfl⟩) | (go_at_call 61; refine (isFace_c _ _).mono ?_; rintro E w' ⟨rfl, rfl⟩)); go_ret; exact ⟨ret_b (by simp [Sw.reqOk, g3]), ext_⟩
  cases g4 : Sw.inR r.ticket 0 7
  case false => go_enter Try.func58, Try.ntmps58; go_wp2_with (first | (go_at_call 56; refine (in_c _ _ _ _).mono ?_; rintro E w' ⟨rfl, rfl⟩) | (go_at_call 69; refine (isUser_c _ _).mono ?_; rintro E w' ⟨rfl, rfl⟩) | (go_at_call 79; refine (isTicket_c _ _).mono ?_; rintro E w' ⟨rfl, rfl⟩) | (go_at_call 61; refine (isFace_c _ _).mono ?_; rintro E w' ⟨rfl, rfl⟩)); go_ret; exact ⟨ret_b (by simp [Sw.reqOk, g4]), ext_⟩
  have e : Sw.reqOk r = (if r.kind = 1 then Sw.inR r.who 1 5 && Sw.inR r.price 1 50 else decide (r.who = 0) && (if r.kind = 2 then Sw.inR r.price 1 999 else decide (r.price = 0))) := by simp [Sw.reqOk, g1, g2, g3, g4]
  have He := Lib.hid e; clear e
  by_cases k1 : r.kind = 1
  · have k1' : (r.kind == 1) = true := by simp [k1]
    have K1 := Lib.hid k1; clear k1
    cases g5 : Sw.inR r.who 1 5
    all_goals
      go_enter Try.func58, Try.ntmps58
      go_wp2_with (first | (go_at_call 56; refine (in_c _ _ _ _).mono ?_; rintro E w' ⟨rfl, rfl⟩) | (go_at_call 69; refine (isUser_c _ _).mono ?_; rintro E w' ⟨rfl, rfl⟩) | (go_at_call 79; refine (isTicket_c _ _).mono ?_; rintro E w' ⟨rfl, rfl⟩) | (go_at_call 61; refine (isFace_c _ _).mono ?_; rintro E w' ⟨rfl, rfl⟩))
      go_ret
      exact ⟨ret_b (by rw [He.out, if_pos K1.out]; simp [g5]), ext_⟩
  have k1' : (r.kind == 1) = false := by simp [k1]
  cases g5 : (r.who == 0)
  all_goals
    by_cases k2 : r.kind = 2
    · have k2' : (r.kind == 2) = true := by simp [k2]
      have K2 := Lib.hid k2; clear k2
      cases g6 : Sw.inR r.price 1 999
      all_goals
        go_enter Try.func58, Try.ntmps58
        go_wp2_with (first | (go_at_call 56; refine (in_c _ _ _ _).mono ?_; rintro E w' ⟨rfl, rfl⟩) | (go_at_call 69; refine (isUser_c _ _).mono ?_; rintro E w' ⟨rfl, rfl⟩) | (go_at_call 79; refine (isTicket_c _ _).mono ?_; rintro E w' ⟨rfl, rfl⟩) | (go_at_call 61; refine (isFace_c _ _).mono ?_; rintro E w' ⟨rfl, rfl⟩))
        go_ret
        exact ⟨ret_b (by rw [He.out, if_neg k1, if_pos K2.out]; rw [← beqI, g5, g6]; rfl), ext_⟩
    have k2' : (r.kind == 2) = false := by simp [k2]
    cases g6 : (r.price == 0)
    all_goals
      go_enter Try.func58, Try.ntmps58
      go_wp2_with (first | (go_at_call 56; refine (in_c _ _ _ _).mono ?_; rintro E w' ⟨rfl, rfl⟩) | (go_at_call 69; refine (isUser_c _ _).mono ?_; rintro E w' ⟨rfl, rfl⟩) | (go_at_call 79; refine (isTicket_c _ _).mono ?_; rintro E w' ⟨rfl, rfl⟩) | (go_at_call 61; refine (isFace_c _ _).mono ?_; rintro E w' ⟨rfl, rfl⟩))
      go_ret
      exact ⟨ret_b (by rw [He.out, if_neg k1, if_neg k2]; rw [← beqI, ← beqI, g5, g6]; rfl), ext_⟩

theorem iDealOk_c (aL : Option Addr) (aLc aLn : Nat) (aP : Option Addr) (aPc aPn : Nat) (aD : Option Addr) (aDc aDn : Nat) (aN : Option Addr) (aNc aNn : Nat) (aS : Option Addr) (aSc aSn : Nat) (m : Sw.Mkt) (d : Sw.Deal) (A : Option Addr) (c : Nat) (rows : List Sw.Row) (w : World) (hrr : RR w 0 A c 8 rows) (hck0 : 0 ≤ m.clock) (hck1 : m.clock ≤ 99999) : Calls Try.prog 57 #[.agg #[.slice aL aLn aLc, .slice aP aPn aPc, .slice aD aDn aDc, .int .i64 m.clock, .slice aN aNn aNc, .slice aS aSn aSc], .agg #[.int .i64 d.ticket, .int .i64 d.seller, .int .i64 d.price, .int .i64 d.buyer, .int .i64 d.due], .slice A 8 c] w fun E w' => E = .returned (.bool (Sw.dealOk m.clock rows d)) ∧ Ex w w' := by
  cases c1 : Sw.inR d.ticket 0 7
  case false =>
    go_enter Try.func57, Try.ntmps57; go_wp2_with (first | (go_at_call 79; refine (isTicket_c _ _).mono ?_; rintro E w' ⟨rfl, rfl⟩) | (go_at_call 69; refine (isUser_c _ _).mono ?_; rintro E w' ⟨rfl, rfl⟩)); go_ret; exact ⟨ret_b (by simp [Sw.dealOk, c1]), ext_⟩
  cases c2 : Sw.inR d.seller 1 5
  case false =>
    go_enter Try.func57, Try.ntmps57; go_wp2_with (first | (go_at_call 79; refine (isTicket_c _ _).mono ?_; rintro E w' ⟨rfl, rfl⟩) | (go_at_call 69; refine (isUser_c _ _).mono ?_; rintro E w' ⟨rfl, rfl⟩)); go_ret; exact ⟨ret_b (by simp [Sw.dealOk, c2]), ext_⟩
  obtain ⟨y0, y7⟩ := Sw.inR_iff.1 c1
  obtain ⟨t, ht⟩ := Int.eq_ofNat_of_zero_le y0
  have e0 : d.ticket.toNat = t := by omega
  have ht8 : t < 8 := by omega
  have y8 : d.ticket < 8 := by omega
  have HT := Lib.hid ht
  clear ht
  obtain ⟨gr, offr, r, rfl, hgr0, hgr, hdr, hyr, r0, r1, r2⟩ := at_R hrr ht8
  have hrow : Sw.rowAt rows d.ticket = r := by simp [Sw.rowAt, e0, hyr]
  have e : Sw.dealOk m.clock rows d = (decide (r.who = d.seller) && !r.used && Sw.inR d.price 1 (Sw.entCap r.face) && (if d.buyer = 0 then decide (d.due = 0) else Sw.inR d.buyer 1 5 && decide (d.buyer ≠ d.seller) && Sw.inR d.due m.clock (m.clock + 5))) := by
    rw [Sw.dealOk, hrow, c1, c2]; simp
  have He := Lib.hid e
  clear hdr hyr hrow e
  obtain ⟨rw_, rf, ru⟩ := r
  dsimp only at r0 r1 r2
  cases c3 : (rw_ == d.seller)
  case false =>
    have c3' : (rw_ != d.seller) = true := by rw [bne, c3]; rfl
    go_enter Try.func57, Try.ntmps57; go_wp2_with (first | (go_at_call 79; refine (isTicket_c _ _).mono ?_; rintro E w' ⟨rfl, rfl⟩) | (go_at_call 69; refine (isUser_c _ _).mono ?_; rintro E w' ⟨rfl, rfl⟩)); go_quiet ((first | (go_at_call 28; exact Calls.quiet_same (iEntCap_c _ _)) | (go_at_call 56; exact Calls.quiet_same (in_c _ _ _ _)))); go_wp2_with (first | (go_at_call 69; refine (isUser_c _ _).mono ?_; rintro E w' ⟨rfl, rfl⟩) | (go_at_call 56; refine (in_c _ _ _ _).mono ?_; rintro E w' ⟨rfl, rfl⟩)); go_ret; exact ⟨ret_b (by rw [He.out, ← beqI, c3]; simp), ext_⟩
  have c3' : (rw_ != d.seller) = false := by rw [bne, c3]; rfl
  cases ru
  case true =>
    go_enter Try.func57, Try.ntmps57; go_wp2_with (first | (go_at_call 79; refine (isTicket_c _ _).mono ?_; rintro E w' ⟨rfl, rfl⟩) | (go_at_call 69; refine (isUser_c _ _).mono ?_; rintro E w' ⟨rfl, rfl⟩)); go_quiet ((first | (go_at_call 28; exact Calls.quiet_same (iEntCap_c _ _)) | (go_at_call 56; exact Calls.quiet_same (in_c _ _ _ _)))); go_wp2_with (first | (go_at_call 69; refine (isUser_c _ _).mono ?_; rintro E w' ⟨rfl, rfl⟩) | (go_at_call 56; refine (in_c _ _ _ _).mono ?_; rintro E w' ⟨rfl, rfl⟩)); go_ret; exact ⟨ret_b (by rw [He.out]; simp), ext_⟩
  cases c6 : Sw.inR d.price 1 (Sw.entCap rf)
  case false =>
    go_enter Try.func57, Try.ntmps57; go_wp2_with (first | (go_at_call 79; refine (isTicket_c _ _).mono ?_; rintro E w' ⟨rfl, rfl⟩) | (go_at_call 69; refine (isUser_c _ _).mono ?_; rintro E w' ⟨rfl, rfl⟩)); go_quiet ((first | (go_at_call 28; exact Calls.quiet_same (iEntCap_c _ _)) | (go_at_call 56; exact Calls.quiet_same (in_c _ _ _ _)))); go_wp2_with (first | (go_at_call 69; refine (isUser_c _ _).mono ?_; rintro E w' ⟨rfl, rfl⟩) | (go_at_call 56; refine (in_c _ _ _ _).mono ?_; rintro E w' ⟨rfl, rfl⟩)); go_ret; exact ⟨ret_b (by rw [He.out]; simp [c6]), ext_⟩
  by_cases b0 : d.buyer = 0
  · have b1 : (d.buyer == 0) = true := by simp [b0]
    have B0 := Lib.hid b0; clear b0
    go_enter Try.func57, Try.ntmps57; go_wp2_with (first | (go_at_call 79; refine (isTicket_c _ _).mono ?_; rintro E w' ⟨rfl, rfl⟩) | (go_at_call 69; refine (isUser_c _ _).mono ?_; rintro E w' ⟨rfl, rfl⟩)); go_quiet ((first | (go_at_call 28; exact Calls.quiet_same (iEntCap_c _ _)) | (go_at_call 56; exact Calls.quiet_same (in_c _ _ _ _)))); go_wp2_with (first | (go_at_call 69; refine (isUser_c _ _).mono ?_; rintro E w' ⟨rfl, rfl⟩) | (go_at_call 56; refine (in_c _ _ _ _).mono ?_; rintro E w' ⟨rfl, rfl⟩)); go_ret; exact ⟨ret_b (by rw [He.out, if_pos B0.out, ← beqI, c3, c6, ← beqI]; simp), ext_⟩
  have b1 : (d.buyer == 0) = false := by simp [b0]
  have B0 := Lib.hid b0; clear b0
  cases c7 : Sw.inR d.buyer 1 5
  case false =>
    go_enter Try.func57, Try.ntmps57; go_wp2_with (first | (go_at_call 79; refine (isTicket_c _ _).mono ?_; rintro E w' ⟨rfl, rfl⟩) | (go_at_call 69; refine (isUser_c _ _).mono ?_; rintro E w' ⟨rfl, rfl⟩)); go_quiet ((first | (go_at_call 28; exact Calls.quiet_same (iEntCap_c _ _)) | (go_at_call 56; exact Calls.quiet_same (in_c _ _ _ _)))); go_wp2_with (first | (go_at_call 69; refine (isUser_c _ _).mono ?_; rintro E w' ⟨rfl, rfl⟩) | (go_at_call 56; refine (in_c _ _ _ _).mono ?_; rintro E w' ⟨rfl, rfl⟩)); go_ret; exact ⟨ret_b (by rw [He.out, if_neg B0.out, c7]; simp), ext_⟩
  cases c8 : (d.buyer == d.seller)
  case true =>
    have c8' : (d.buyer != d.seller) = false := by rw [bne, c8]; rfl
    go_enter Try.func57, Try.ntmps57; go_wp2_with (first | (go_at_call 79; refine (isTicket_c _ _).mono ?_; rintro E w' ⟨rfl, rfl⟩) | (go_at_call 69; refine (isUser_c _ _).mono ?_; rintro E w' ⟨rfl, rfl⟩)); go_quiet ((first | (go_at_call 28; exact Calls.quiet_same (iEntCap_c _ _)) | (go_at_call 56; exact Calls.quiet_same (in_c _ _ _ _)))); go_wp2_with (first | (go_at_call 69; refine (isUser_c _ _).mono ?_; rintro E w' ⟨rfl, rfl⟩) | (go_at_call 56; refine (in_c _ _ _ _).mono ?_; rintro E w' ⟨rfl, rfl⟩)); go_ret; exact ⟨ret_b (by rw [He.out, if_neg B0.out, decide_not, ← beqI d.buyer, c8]; simp), ext_⟩
  have c8' : (d.buyer != d.seller) = true := by rw [bne, c8]; rfl
  go_enter Try.func57, Try.ntmps57; go_wp2_with (first | (go_at_call 79; refine (isTicket_c _ _).mono ?_; rintro E w' ⟨rfl, rfl⟩) | (go_at_call 69; refine (isUser_c _ _).mono ?_; rintro E w' ⟨rfl, rfl⟩)); go_quiet ((first | (go_at_call 28; exact Calls.quiet_same (iEntCap_c _ _)) | (go_at_call 56; exact Calls.quiet_same (in_c _ _ _ _)))); go_wp2_with (first | (go_at_call 69; refine (isUser_c _ _).mono ?_; rintro E w' ⟨rfl, rfl⟩) | (go_at_call 56; refine (in_c _ _ _ _).mono ?_; rintro E w' ⟨rfl, rfl⟩)); go_ret; exact ⟨ret_b (by rw [He.out, if_neg B0.out, decide_not, ← beqI d.buyer, c8, ← beqI, c3, c6, c7]; simp), ext_⟩
end Go.Proofs.Ytimpagcanengoaa

