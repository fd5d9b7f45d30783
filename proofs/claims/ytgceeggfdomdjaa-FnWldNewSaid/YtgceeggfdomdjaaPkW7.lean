/-
  Texts joined: WldNw, FnWldNew, Frame, Open, OpenB, End.
-/
import Derived.Test.YtgceeggfdomdjaaPkW6
import Derived.Test.YtgceeggfdomdjaaPkW3
import Derived.Test.YtgceeggfdomdjaaPkW5
import Derived.Deep.DeepCutAuto
import Derived.Test.YtgceeggfdomdjaaPkW4
import Derived.Test.YtgceeggfdomdjaaPkW1
import Derived.Carry
import Derived.WalkKit
import Derived.ProofKit
import Derived.ChangeSame
import Derived.OpenShut
import Derived.ChangeSlices
import Derived.Deep.Slices
import Derived.Test.YtgceeggfdomdjaaPkW2
import Derived.Test.YtgceeggfdomdjaaRows
import Derived.Handed
import Derived.JoinedOf
namespace Go.Proofs.Ytgceeggfdomdjaa
set_option maxRecDepth 100000
set_option linter.unusedSimpArgs false
set_option linter.unusedVariables false
open Go.RowKit Go
set_option maxHeartbeats 8000000

theorem ne_off {g i j : Nat} (h : i ≠ j) : (⟨g, i, none⟩ : Addr) ≠ ⟨g, j, none⟩ := fun e => h (congrArg Addr.off e)
theorem WN.zero {τ : Nat → Nat} {w : World} {lo : Nat} : WN τ w lo none 0 0 none 0 0 none 0 0 none 0 0 none 0 0 none 0 0 none 0 0 Sw.worldZ := ⟨OwT.nil .., OwM.zero, OwT.nil .., by intro g hg; simp [Sw.worldZ] at hg, rfl, rfl⟩
theorem low_keep {S : Nat → Prop} {wr X w2 : World} {lo g : Nat} (_ : Ch S X w2) (hlow : ∀ b, b < lo → w2.heap[b]? = X.heap[b]?) (k : KF 0 wr X) (hg : g < lo) (hl : g < wr.heap.size) : ∀ j, w2.cell? ⟨g, j, none⟩ = wr.cell? ⟨g, j, none⟩ :=
  fun j => (World.cell?_of_block (w := X) (a := ⟨g, j, none⟩) (hlow g hg)).trans (World.cell?_of_block (w := wr) (a := ⟨g, j, none⟩) (k.block g (Nat.zero_le _) hl))
/-- The pieces' state, where so many operations are still to come. -/
structure NewWS (A : Option Addr) (c : Nat) (xs : List Int) (g3 : Nat) (bL : Option Addr) (bLc bLn : Nat) (bP : Option Addr) (bPc bPn : Nat) (bD : Option Addr) (bDc bDn : Nat) (bN : Option Addr) (bNc bNn : Nat) (bS : Option Addr) (bSc bSn : Nat) (K : Int) (w W0 : World) (n : Nat) (l : Array Bool) (a : Act) (wx : World) : Prop where
  keep : KF 0 w wx
  held : HeldB (w.heap.size) 10 W0 wx
  up : W0.heap.size ≤ wx.heap.size
  st : ∃ (l0 r0 r1 r2 : Bool) (v0 u0 u1 u2 : Value) (τ : Nat → Nat), n = cb l0 + cb r0 + cb r1 + cb r2 ∧ l = #[l0, true, r0, true, r2, r1, false] ∧ a = ⟨#[.slice A 5 c, undef, .pointer (some ⟨w.heap.size, 0, none⟩), .pointer (some ⟨g3, 0, none⟩), u1, undef, .slice A 5 c, .agg #[.slice bL bLn bLc, .slice bP bPn bPc, .slice bD bDn bDc, .int .i64 K, .slice bN bNn bNc, .slice bS bSn bSc], .pointer (some ⟨g3, 1, none⟩), .slice bP bPn bPc, .int .i64 5, .bool false, undef, v0, .slice A 5 c, u0, .agg #[.slice bL bLn bLc, .slice bP bPn bPc, .slice bD bDn bDc, .int .i64 K, .slice bN bNn bNc, .slice bS bSn bSc], u2, undef, undef, undef, undef, undef, undef, undef, undef, undef, undef, undef], []⟩ ∧ CopySt encI 1 3 τ 6 wx W0.heap.size 5 xs l0 r0 v0 u0 ∧ AllocSt τ 7 wx W0.heap.size 10 r1 u1 ∧ BuildSt (fun u => .agg #[u, .slice bL bLn bLc, .slice bP bPn bPc, .slice bD bDn bDc, .int .i64 K, .slice bN bNn bNc, .slice bS bSn bSc, .slice none 0 0, .slice none 0 0, .slice none 0 0]) u0 r0 r2 u2
/-- The pieces' state, where so many operations are still to come. -/
structure NewWI (A : Option Addr) (c : Nat) (xs : List Int) (g3 : Nat) (bL : Option Addr) (bLc bLn : Nat) (bP : Option Addr) (bPc bPn : Nat) (bD : Option Addr) (bDc bDn : Nat) (bN : Option Addr) (bNc bNn : Nat) (bS : Option Addr) (bSc bSn : Nat) (K : Int) (w W0 : World) (n : Nat) (l : Array Bool) (a : Act) (wx : World) : Prop where
  keep : KF 0 w wx
  held : HeldB (w.heap.size) 10 W0 wx
  up : W0.heap.size ≤ wx.heap.size
  st : ∃ (r0 r1 r2 : Bool) (u0 u1 u2 : Value) (τ : Nat → Nat), n = cb r0 + cb r1 + cb r2 ∧ l = #[true, r0, true, r2, r1, false] ∧ a = ⟨#[.slice A 5 c, undef, .pointer (some ⟨w.heap.size, 0, none⟩), .pointer (some ⟨g3, 0, none⟩), u1, .slice A 5 c, .agg #[.slice bL bLn bLc, .slice bP bPn bPc, .slice bD bDn bDc, .int .i64 K, .slice bN bNn bNc, .slice bS bSn bSc], .pointer (some ⟨g3, 1, none⟩), .slice bP bPn bPc, .int .i64 5, .bool false, undef, .slice A 5 c, u0, .agg #[.slice bL bLn bLc, .slice bP bPn bPc, .slice bD bDn bDc, .int .i64 K, .slice bN bNn bNc, .slice bS bSn bSc], u2, undef, undef, undef, undef, undef, undef, undef, undef, undef, undef], []⟩ ∧ MakeSt encI 1 3 τ 6 wx W0.heap.size 5 xs r0 u0 ∧ AllocSt τ 7 wx W0.heap.size 10 r1 u1 ∧ BuildSt (fun u => .agg #[u, .slice bL bLn bLc, .slice bP bPn bPc, .slice bD bDn bDc, .int .i64 K, .slice bN bNn bNc, .slice bS bSn bSc, .slice none 0 0, .slice none 0 0, .slice none 0 0]) u0 r0 r2 u2
theorem sWldNew_c (A : Option Addr) (c n : Nat) (xs : List Int) (w : World) (hxs : RI w 0 A c n xs) : Calls Try.prog 34 #[.slice A n c] w fun E w' => ∃ F Fc Fn bL bLc bLn bP bPc bPn bD bDc bDn bN bNc bNn bS bSc bSn G Gc Gn τ, E = .returned (.agg #[.slice F Fn Fc, .slice bL bLn bLc, .slice bP bPn bPc, .slice bD bDn bDc, .int .i64 (Sw.wldNew xs).market.clock, .slice bN bNn bNc, .slice bS bSn bSc, .slice none 0 0, .slice G Gn Gc, .slice none 0 0]) ∧ WN τ w' w.heap.size F Fc Fn bL bLc bLn bP bPc bPn bD bDc bDn bN bNc bNn bS bSc bSn G Gc Gn (Sw.wldNew xs) ∧ Ex w w' := by
  by_cases gv : (Sw.monOk xs && decide (Sw.monSum xs ≤ 100000)) = true
  case neg =>
    have e : Sw.wldNew xs = Sw.worldZ := by unfold Sw.wldNew; rw [if_neg gv]
    have em : Sw.mktNew xs = Sw.mktZ := by unfold Sw.mktNew; rw [if_neg gv]
    have He := Lib.hid e; have Hm := Lib.hid em; clear e em gv
    go_enter Try.func34, Try.ntmps34
    go_wp2_with fail
    apply Calls.mono
    apply sMktNew_c
    · apply Rs.at0 hxs; (exact kf_)
    rintro E w1 ⟨bL, bLc, bLn, bP, bPc, bPn, bD, bDc, bDn, bN, bNc, bNn, bS, bSc, bSn, τm, rfl, hoM, hb⟩
    obtain rfl : bPn = 0 := by have := hoM.purses.ow.1; rw [Hm.out] at this; exact this
    have hst := xr hb; (try simp only [zA, zC, zD, zN] at hst); obtain ⟨hc, hf, hz⟩ := hst
    go_wp2_with fail
    refine bodyPost_ret (v := .agg #[.slice none 0 0, .slice none 0 0, .slice none 0 0, .slice none 0 0, .int .i64 0, .slice none 0 0, .slice none 0 0, .slice none 0 0, .slice none 0 0, .slice none 0 0]) (by simp [results, Try.results34, go_sem, *]) rfl ?_
    refine ⟨_, _, _, _, _, _, _, _, _, _, _, _, _, _, _, _, _, _, _, _, _, fun _ => 0, by rw [He.out]; rfl, ?_, ext_⟩
    rw [He.out]
    exact WN.zero
  have e : Sw.wldNew xs = ⟨xs, Sw.mktNew xs, [], [Sw.gatNew, Sw.gatNew], []⟩ := by unfold Sw.wldNew; rw [if_pos gv]
  have em : Sw.mktNew xs = ⟨[], xs, [], 0, [0, 0, 0, 0, 0], [0, 0, 0, 0, 0]⟩ := by unfold Sw.mktNew; rw [if_pos gv]
  have h5 : xs.length = 5 := monOk_len (Bool.and_eq_true_iff.1 gv).1
  have hn5 : n = 5 := by rw [hxs.1, h5]
  subst hn5
  have He := Lib.hid e; have Hm := Lib.hid em; have H5 := Lib.hid h5; clear e em gv h5
  go_enter Try.func34, Try.ntmps34
  go_wp2_with fail
  apply Calls.mono
  apply sMktNew_c
  · apply Rs.at0 hxs; (exact kf_)
  rintro E w1 ⟨bL, bLc, bLn, bP, bPc, bPn, bD, bDc, bDn, bN, bNc, bNn, bS, bSc, bSn, τm, rfl, hoM, hb⟩
  have hbM := hb
  obtain rfl : bPn = 5 := by have := hoM.purses.ow.1; rw [Hm.out] at this; exact this.trans H5.out
  have hst := xr hb; (try simp only [zA, zC, zD, zN] at hst); obtain ⟨hc, hf, hz⟩ := hst
  go_wp2_with fail
  (refine wp_name ?_; intro W0 hb0; have hst := xr hb0; (try simp only [zA, zC, zD, zN] at hst); obtain ⟨hc0, hf0, hz0⟩ := hst; have hLb : Lb W0 (w.heap.size) 10 := Lb.ex (by exact lbc_) hb0; refine wp_region_held_drew (S := fun w' => HeldB (w.heap.size) 10 W0 w') (by kernel_rfl) ?_ (fun hHeld => ?_); (focus ((try dsimp only); (first | with_reducible assumption | with_reducible exact HeldB.start hLb | with_reducible exact HeldB.of (by assumption) (by assumption) | ((repeat (first | with_reducible refine HeldB.set ?_ (by first | exact Or.inl rfl | exact Or.inr (by simp only [zA, zC, zD, zN]; omega) | exact Or.inr (by omega)) | with_reducible refine HeldB.alloc ?_ _ | with_reducible refine HeldB.drew ?_)); (first | with_reducible assumption | with_reducible exact HeldB.refl hLb | with_reducible exact HeldB.of (by assumption) (by assumption) | with_reducible exact HeldB.ex (by assumption) (by assumption)))))); refine regT 1 14 (v := ?_) rfl rfl (by kernel_rfl) (by kernel_rfl) (by kernel_rfl) (fun _ _ _ h => h) (by rfl) ?_ (by assumption) ?_; rotate_left; (focus (intro w hSw; (try dsimp only at hSw); (try (have hst := xc (HeldB.ch hSw); (try simp only [zA, zC, zD, zN] at hst); obtain ⟨hcS, hfS, hzS⟩ := hst)); go_simp; (try with_reducible rfl))); (try simp only [Act.put, List.setIfInBounds_toArray, List.set_cons_zero, List.set_cons_succ]); refine regT 3 16 (v := ?_) rfl rfl (by kernel_rfl) (by kernel_rfl) (by kernel_rfl) (fun _ _ _ h => h) (by rfl) ?_ (by assumption) ?_; rotate_left; (focus (intro w hSw; (try dsimp only at hSw); (try (have hst := xc (HeldB.ch hSw); (try simp only [zA, zC, zD, zN] at hst); obtain ⟨hcS, hfS, hzS⟩ := hst)); go_simp; (try with_reducible rfl))); (try simp only [Act.put, List.setIfInBounds_toArray, List.set_cons_zero, List.set_cons_succ]))
  have hlt0 : w.heap.size < W0.heap.size := hLb.lt
  refine wpAnyH_inv (Inv := NewWS A c xs w1.heap.size bL bLc bLn bP bPc 5 bD bDc bDn bN bNc bNn bS bSc bSn (Sw.mktNew xs).clock w W0) (k := 1) ?_ ?_ ?_ 4 _ _ _ ?_
  case refine_4 =>
    exact ⟨by (exact kf_), hHeld, Nat.le_refl _, false, false, false, false, undef, undef, undef, undef, fun _ => 0, rfl, by kernel_rfl, rfl, .none _ _, .none _, .none _ _⟩
  case refine_1 =>
    rintro l a wx ⟨hk, hHeld, hup, l0, r0, r1, r2, v0, u0, u1, u2, τ, hn0, rfl, rfl, C0, C1, C2⟩
    obtain rfl : l0 = true := by cases l0 <;> first | rfl | (exfalso; revert hn0; simp [cb]; done) | (exfalso; revert hn0; simp [cb]; omega)
    obtain rfl : r0 = true := by cases r0 <;> first | rfl | (exfalso; revert hn0; simp [cb]; done) | (exfalso; revert hn0; simp [cb]; omega)
    obtain rfl : r1 = true := by cases r1 <;> first | rfl | (exfalso; revert hn0; simp [cb]; done) | (exfalso; revert hn0; simp [cb]; omega)
    obtain rfl : r2 = true := by cases r2 <;> first | rfl | (exfalso; revert hn0; simp [cb]; done) | (exfalso; revert hn0; simp [cb]; omega)
    obtain rfl : u2 = (fun u => .agg #[u, .slice bL bLn bLc, .slice bP 5 bPc, .slice bD bDn bDc, .int .i64 (Sw.mktNew xs).clock, .slice bN bNn bNc, .slice bS bSn bSc, .slice none 0 0, .slice none 0 0, .slice none 0 0]) u0 := by (cases C2; rfl)
    obtain ⟨A0, c0, rfl, t0⟩ : ∃ A c, u0 = .slice A 5 c ∧ OwT encI 1 3 τ 6 wx W0.heap.size A c 5 xs := by (cases C0; exact ⟨_, _, rfl, by assumption⟩)
    obtain ⟨g1, rfl, hg1, hLg1, ht1⟩ : ∃ g, u1 = .pointer (some ⟨g, 0, none⟩) ∧ W0.heap.size ≤ g ∧ Lb wx g 10 ∧ τ g = 7 := by (cases C1; exact ⟨_, rfl, by assumption, by assumption, by assumption⟩)
    clear C0 C1 C2 hn0
    refine wpAnyH_ready (rs := [6]) (by kernel_rfl) (by simp) ?_
    refine AllReadyH.cons rfl (fun K hK => ?_) ?_
    rotate_left
    focus exact AllReadyH.nil
    have hLbx := hLg1
    obtain ⟨hcx, hfx⟩ := Lb.rules hLbx
    go_simp
    refine hK.out _ _ ?_ (fun hHx => ?_)
    focus ((first | with_reducible assumption | with_reducible exact HeldB.start hLb | with_reducible exact HeldB.of (by assumption) (by assumption) | ((repeat (first | with_reducible refine HeldB.set ?_ (by first | exact Or.inl rfl | exact Or.inr (by simp only [zA, zC, zD, zN]; omega) | exact Or.inr (by omega)) | with_reducible refine HeldB.alloc ?_ _ | with_reducible refine HeldB.drew ?_)); (first | with_reducible assumption | with_reducible exact HeldB.refl hLb | with_reducible exact HeldB.of (by assumption) (by assumption) | with_reducible exact HeldB.ex (by assumption) (by assumption)))))
    have hb := hHeld.ch
    clear hK K hHeld hcx hfx hLbx
    (have hst := xc hb; (try simp only [zA, zC, zD, zN] at hst); obtain ⟨hc, hf, hz⟩ := hst)
    have hLb3 := HeldB.lb hHx
    repeat (replace hLb3 := Lb.unset hLb3)
    obtain ⟨hcb, hfb⟩ := Lb.rules hLg1
    have hbf := HeldB.ch hHx
    clear hHx
    refine wpAnyH_done (by kernel_rfl) ?_ _
    go_wp2_with fail
    (refine wp_name ?_; intro W0 hb0; have hst := xr hb0; (try simp only [zA, zC, zD, zN] at hst); obtain ⟨hc0, hf0, hz0⟩ := hst)
    have hLb : Lb W0 g1 10 := Lb.ex (by exact lbc_) hb0
    have hgW : g1 < W0.heap.size := hLb.lt
    have hLw : Lb W0 w.heap.size 10 := Lb.ex (by exact lbc_) hb0
    have q0 : W0.cell? ⟨g1, 0, none⟩ = some (.slice A0 5 c0) := by ((refine (World.cell?_of_block (a := ⟨g1, 0, none⟩) (hb0.block g1 (by simpa [World.setCell] using hLg1.lt) (fun h => h))).trans ?_); (repeat (first | (refine (World.cell?_setCell_other _ _ _ _ (ne_off ?_)).trans ?_; focus decide) | fail)); refine World.cell?_setCell_same _ _ _ (u := peek wx ⟨g1, 0, none⟩) ?_; (repeat (first | (refine (World.cell?_setCell_other _ _ _ _ (ne_off ?_)).trans ?_; focus decide) | fail)); exact hcb 0 (by decide))
    have q1 : W0.cell? ⟨g1, 1, none⟩ = some (.slice bL bLn bLc) := by ((refine (World.cell?_of_block (a := ⟨g1, 1, none⟩) (hb0.block g1 (by simpa [World.setCell] using hLg1.lt) (fun h => h))).trans ?_); (repeat (first | (refine (World.cell?_setCell_other _ _ _ _ (ne_off ?_)).trans ?_; focus decide) | fail)); refine World.cell?_setCell_same _ _ _ (u := peek wx ⟨g1, 1, none⟩) ?_; (repeat (first | (refine (World.cell?_setCell_other _ _ _ _ (ne_off ?_)).trans ?_; focus decide) | fail)); exact hcb 1 (by decide))
    have q2 : W0.cell? ⟨g1, 2, none⟩ = some (.slice bP 5 bPc) := by ((refine (World.cell?_of_block (a := ⟨g1, 2, none⟩) (hb0.block g1 (by simpa [World.setCell] using hLg1.lt) (fun h => h))).trans ?_); (repeat (first | (refine (World.cell?_setCell_other _ _ _ _ (ne_off ?_)).trans ?_; focus decide) | fail)); refine World.cell?_setCell_same _ _ _ (u := peek wx ⟨g1, 2, none⟩) ?_; (repeat (first | (refine (World.cell?_setCell_other _ _ _ _ (ne_off ?_)).trans ?_; focus decide) | fail)); exact hcb 2 (by decide))
    have q3 : W0.cell? ⟨g1, 3, none⟩ = some (.slice bD bDn bDc) := by ((refine (World.cell?_of_block (a := ⟨g1, 3, none⟩) (hb0.block g1 (by simpa [World.setCell] using hLg1.lt) (fun h => h))).trans ?_); (repeat (first | (refine (World.cell?_setCell_other _ _ _ _ (ne_off ?_)).trans ?_; focus decide) | fail)); refine World.cell?_setCell_same _ _ _ (u := peek wx ⟨g1, 3, none⟩) ?_; (repeat (first | (refine (World.cell?_setCell_other _ _ _ _ (ne_off ?_)).trans ?_; focus decide) | fail)); exact hcb 3 (by decide))
    have q4 : W0.cell? ⟨g1, 4, none⟩ = some (.int .i64 (Sw.mktNew xs).clock) := by ((refine (World.cell?_of_block (a := ⟨g1, 4, none⟩) (hb0.block g1 (by simpa [World.setCell] using hLg1.lt) (fun h => h))).trans ?_); (repeat (first | (refine (World.cell?_setCell_other _ _ _ _ (ne_off ?_)).trans ?_; focus decide) | fail)); refine World.cell?_setCell_same _ _ _ (u := peek wx ⟨g1, 4, none⟩) ?_; (repeat (first | (refine (World.cell?_setCell_other _ _ _ _ (ne_off ?_)).trans ?_; focus decide) | fail)); exact hcb 4 (by decide))
    have q5 : W0.cell? ⟨g1, 5, none⟩ = some (.slice bN bNn bNc) := by ((refine (World.cell?_of_block (a := ⟨g1, 5, none⟩) (hb0.block g1 (by simpa [World.setCell] using hLg1.lt) (fun h => h))).trans ?_); (repeat (first | (refine (World.cell?_setCell_other _ _ _ _ (ne_off ?_)).trans ?_; focus decide) | fail)); refine World.cell?_setCell_same _ _ _ (u := peek wx ⟨g1, 5, none⟩) ?_; (repeat (first | (refine (World.cell?_setCell_other _ _ _ _ (ne_off ?_)).trans ?_; focus decide) | fail)); exact hcb 5 (by decide))
    have q6 : W0.cell? ⟨g1, 6, none⟩ = some (.slice bS bSn bSc) := by ((refine (World.cell?_of_block (a := ⟨g1, 6, none⟩) (hb0.block g1 (by simpa [World.setCell] using hLg1.lt) (fun h => h))).trans ?_); (repeat (first | (refine (World.cell?_setCell_other _ _ _ _ (ne_off ?_)).trans ?_; focus decide) | fail)); refine World.cell?_setCell_same _ _ _ (u := peek wx ⟨g1, 6, none⟩) ?_; (repeat (first | (refine (World.cell?_setCell_other _ _ _ _ (ne_off ?_)).trans ?_; focus decide) | fail)); exact hcb 6 (by decide))
    have q7 : W0.cell? ⟨g1, 7, none⟩ = some (.slice none 0 0) := by ((refine (World.cell?_of_block (a := ⟨g1, 7, none⟩) (hb0.block g1 (by simpa [World.setCell] using hLg1.lt) (fun h => h))).trans ?_); (repeat (first | (refine (World.cell?_setCell_other _ _ _ _ (ne_off ?_)).trans ?_; focus decide) | fail)); refine World.cell?_setCell_same _ _ _ (u := peek wx ⟨g1, 7, none⟩) ?_; (repeat (first | (refine (World.cell?_setCell_other _ _ _ _ (ne_off ?_)).trans ?_; focus decide) | fail)); exact hcb 7 (by decide))
    have q8 : W0.cell? ⟨g1, 8, none⟩ = some (.slice none 0 0) := by ((refine (World.cell?_of_block (a := ⟨g1, 8, none⟩) (hb0.block g1 (by simpa [World.setCell] using hLg1.lt) (fun h => h))).trans ?_); (repeat (first | (refine (World.cell?_setCell_other _ _ _ _ (ne_off ?_)).trans ?_; focus decide) | fail)); refine World.cell?_setCell_same _ _ _ (u := peek wx ⟨g1, 8, none⟩) ?_; (repeat (first | (refine (World.cell?_setCell_other _ _ _ _ (ne_off ?_)).trans ?_; focus decide) | fail)); exact hcb 8 (by decide))
    have q9 : W0.cell? ⟨g1, 9, none⟩ = some (.slice none 0 0) := by ((refine (World.cell?_of_block (a := ⟨g1, 9, none⟩) (hb0.block g1 (by simpa [World.setCell] using hLg1.lt) (fun h => h))).trans ?_); (repeat (first | (refine (World.cell?_setCell_other _ _ _ _ (ne_off ?_)).trans ?_; focus decide) | fail)); refine World.cell?_setCell_same _ _ _ (u := peek wx ⟨g1, 9, none⟩) ?_; (repeat (first | (refine (World.cell?_setCell_other _ _ _ _ (ne_off ?_)).trans ?_; focus decide) | fail)); exact hcb 9 (by decide))
    go_loopw [5] (fun i wr => ∃ (k : Nat) (A' : Option Addr) (c' : Nat), k ≤ 2 ∧ i = .int .i64 k ∧ HeldB g1 10 W0 wr ∧ wr.cell? ⟨g1, 8, none⟩ = some (.slice A' k c') ∧ OwGV wr W0.heap.size A' c' k (List.replicate k (gv0 ((Sw.hedOf []).getD Sw.headZ))) ∧ (∀ j, j ≠ 8 → wr.cell? ⟨g1, j, none⟩ = W0.cell? ⟨g1, j, none⟩)) (fun i _ => 2 - (intOf i).toNat)
    case atStart => exact ⟨0, none, 0, by omega, rfl, HeldB.refl hLb, q8, Ow.nil _ _, fun _ _ => rfl⟩
    case round =>
      obtain ⟨k, A', c', hk2, rfl, hB, hq, ho, hrest⟩ := hrel
      have hgl : g1 < wr.heap.size := hB.lb.lt
      have hszW : W0.heap.size ≤ wr.heap.size := hB.ch.size
      by_cases hlt : k < 2
      · have Hr := Lib.hid hrest; clear hrest
        go_wp2_with fail
        refine wp_region_held_drew (S := fun w' => HeldB g1 10 W0 w') (by kernel_rfl) ?_ (fun hHeld => ?_)
        focus ((try dsimp only); ((first | with_reducible assumption | with_reducible exact HeldB.start hLb | with_reducible exact HeldB.of (by assumption) (by assumption) | ((repeat (first | with_reducible refine HeldB.set ?_ (by first | exact Or.inl rfl | exact Or.inr (by simp only [zA, zC, zD, zN]; omega) | exact Or.inr (by omega)) | with_reducible refine HeldB.alloc ?_ _ | with_reducible refine HeldB.drew ?_)); (first | with_reducible assumption | with_reducible exact HeldB.refl hLb | with_reducible exact HeldB.of (by assumption) (by assumption) | with_reducible exact HeldB.ex (by assumption) (by assumption))))))
        refine regT 0 22 (v := ?_) rfl rfl (by kernel_rfl) (by kernel_rfl) (by kernel_rfl) (fun _ _ _ h => h) (by rfl) ?_ (by assumption) ?_
        rotate_left
        focus (intro w hSw; (try dsimp only at hSw); go_simp; (try with_reducible rfl))
        (try simp only [Act.put, List.setIfInBounds_toArray, List.set_cons_zero, List.set_cons_succ])
        refine wpAnyH_ready (rs := [1, 2]) (by kernel_rfl) (by simp) ?_
        refine AllReadyH.cons rfl (fun K hK => ?_) ?_
        · replace hHeld := Lib.hid hHeld
          replace hB := Lib.hid hB
          go_simp
          replace hHeld := hHeld.out
          replace hB := hB.out
          refine hK.out _ _ ?_ (fun hHeldN => ?_)
          focus ((try dsimp only); ((first | with_reducible assumption | with_reducible exact HeldB.start hLb | with_reducible exact HeldB.of (by assumption) (by assumption) | ((repeat (first | with_reducible refine HeldB.set ?_ (by first | exact Or.inl rfl | exact Or.inr (by simp only [zA, zC, zD, zN]; omega) | exact Or.inr (by omega)) | with_reducible refine HeldB.alloc ?_ _ | with_reducible refine HeldB.drew ?_)); (first | with_reducible assumption | with_reducible exact HeldB.refl hLb | with_reducible exact HeldB.of (by assumption) (by assumption) | with_reducible exact HeldB.ex (by assumption) (by assumption))))))
          clear hK K hHeld
          have hHeld := hHeldN
          clear hHeldN
          (try simp only [Act.put, List.setIfInBounds_toArray, List.set_cons_zero, List.set_cons_succ])
          refine wpAnyH_ready (rs := [2]) (by kernel_rfl) (by simp) ?_
          refine AllReadyH.cons rfl (fun K hK => ?_) AllReadyH.nil
          go_simp
          (go_at_call 88; refine (sGatNew_c _).mono ?_; rintro E w1 ⟨rfl, hb⟩; have hst := xr hb; (try simp only [zA, zC, zD, zN] at hst); obtain ⟨hc, hf, hz⟩ := hst)
          (try go_wp2_with fail)
          refine hK.out _ _ ?_ (fun hHeldN => ?_)
          focus ((try dsimp only); ((first | with_reducible assumption | with_reducible exact HeldB.start hLb | with_reducible exact HeldB.of (by assumption) (by assumption) | ((repeat (first | with_reducible refine HeldB.set ?_ (by first | exact Or.inl rfl | exact Or.inr (by simp only [zA, zC, zD, zN]; omega) | exact Or.inr (by omega)) | with_reducible refine HeldB.alloc ?_ _ | with_reducible refine HeldB.drew ?_)); (first | with_reducible assumption | with_reducible exact HeldB.refl hLb | with_reducible exact HeldB.of (by assumption) (by assumption) | with_reducible exact HeldB.ex (by assumption) (by assumption))))))
          clear hK K hHeld
          have hHeld := hHeldN
          clear hHeldN
          (try simp only [Act.put, List.setIfInBounds_toArray, List.set_cons_zero, List.set_cons_succ])
          refine wpAnyH_ready (rs := [3]) (by kernel_rfl) (by simp) ?_
          refine AllReadyH.cons rfl (fun K hK => ?_) AllReadyH.nil
          go_simp
          refine hK.out _ _ ?_ (fun hHeldN => ?_)
          focus ((try dsimp only); ((first | with_reducible assumption | with_reducible exact HeldB.start hLb | with_reducible exact HeldB.of (by assumption) (by assumption) | ((repeat (first | with_reducible refine HeldB.set ?_ (by first | exact Or.inl rfl | exact Or.inr (by simp only [zA, zC, zD, zN]; omega) | exact Or.inr (by omega)) | with_reducible refine HeldB.alloc ?_ _ | with_reducible refine HeldB.drew ?_)); (first | with_reducible assumption | with_reducible exact HeldB.refl hLb | with_reducible exact HeldB.of (by assumption) (by assumption) | with_reducible exact HeldB.ex (by assumption) (by assumption))))))
          clear hK K hHeld
          have hHeld := hHeldN
          clear hHeldN
          (try simp only [Act.put, List.setIfInBounds_toArray, List.set_cons_zero, List.set_cons_succ])
          refine wpAnyH_ready (rs := [4]) (by kernel_rfl) (by simp) ?_
          refine AllReadyH.cons rfl (fun K hK => ?_) AllReadyH.nil
          (apply step_app (lo := W0.heap.size) el_G one_G rfl rfl rfl rfl; (apply Ow.keep ho; (exact kf_)); (refine Rs.new [gv0 ((Sw.hedOf []).getD Sw.headZ)] (by (first | rfl | (simp only [zA, zC, zD, zN]; done) | omega)) rfl rfl (fun _ => rfl) (by omega)); omega; exact sz_; intro A1 c1 w2 ho1 hch1 hat1 hex1 hlow1)
          have hbx := hex1 (· = g1) W0 (HeldB.ch (by assumption : HeldB g1 10 W0 _)) (Nat.le_refl _)
          have hlbx := Lb.low hlow1 hgW (HeldB.lb (by assumption : HeldB g1 10 W0 _))
          have hX8 := low_keep (wr := wr) hch1 hlow1 (by (exact kf_)) hgW hgl
          have hz1 := hch1.size
          (try simp only [zA, zC, zD, zN] at hz1)
          obtain ⟨hcL, hfL⟩ := low_rules hlow1
          clear hex1 hlow1
          (try simp only [Act.put, List.setIfInBounds_toArray, List.set_cons_zero, List.set_cons_succ])
          refine hK.out _ _ ?_ (fun hHeldN => ?_)
          focus ((try dsimp only); ((first | with_reducible assumption | with_reducible exact HeldB.start hLb | with_reducible exact HeldB.of (by assumption) (by assumption) | ((repeat (first | with_reducible refine HeldB.set ?_ (by first | exact Or.inl rfl | exact Or.inr (by simp only [zA, zC, zD, zN]; omega) | exact Or.inr (by omega)) | with_reducible refine HeldB.alloc ?_ _ | with_reducible refine HeldB.drew ?_)); (first | with_reducible assumption | with_reducible exact HeldB.refl hLb | with_reducible exact HeldB.of (by assumption) (by assumption) | with_reducible exact HeldB.ex (by assumption) (by assumption))))))
          clear hK K hHeld
          have hHeld := hHeldN
          clear hHeldN
          (try simp only [Act.put, List.setIfInBounds_toArray, List.set_cons_zero, List.set_cons_succ])
          refine regT 5 27 (v := ?_) rfl rfl (by kernel_rfl) (by kernel_rfl) (by kernel_rfl) (fun _ _ _ h => h) (by rfl) ?_ (by assumption) ?_
          rotate_left
          focus (intro w hSw; (try dsimp only at hSw); go_simp; (try with_reducible rfl))
          (try simp only [Act.put, List.setIfInBounds_toArray, List.set_cons_zero, List.set_cons_succ])
          refine wpAnyH_ready (rs := [6]) (by kernel_rfl) (by simp) ?_
          refine AllReadyH.cons rfl (fun K hK => ?_) AllReadyH.nil
          have hLbx := HeldB.lb hHeld
          obtain ⟨hcx, hfx⟩ := Lb.rules hLbx
          go_simp
          refine hK.out _ _ ?_ (fun hHx => ?_)
          focus ((try dsimp only); ((first | with_reducible assumption | with_reducible exact HeldB.start hLb | with_reducible exact HeldB.of (by assumption) (by assumption) | ((repeat (first | with_reducible refine HeldB.set ?_ (by first | exact Or.inl rfl | exact Or.inr (by simp only [zA, zC, zD, zN]; omega) | exact Or.inr (by omega)) | with_reducible refine HeldB.alloc ?_ _ | with_reducible refine HeldB.drew ?_)); (first | with_reducible assumption | with_reducible exact HeldB.refl hLb | with_reducible exact HeldB.of (by assumption) (by assumption) | with_reducible exact HeldB.ex (by assumption) (by assumption))))))
          clear hK K hHeld
          (try simp only [Act.put, List.setIfInBounds_toArray, List.set_cons_zero, List.set_cons_succ])
          refine wpAnyH_done (by kernel_rfl) ?_ _
          go_wp2_with fail
          go_roundw
          case rel =>
            refine ⟨k + 1, A1, c1, by omega, by go_num, hHx, World.cell?_setCell_same _ _ _ (hcx 8 (by decide)), ?_, ?_⟩
            · rw [List.replicate_succ']; exact Ow.keep ho1 (by (exact kf_))
            · intro j hj; rw [World.cell?_setCell_other _ _ _ _ (by intro e; exact hj (by injection e with _ e; exact e.symm))]; exact (hX8 j).trans (Hr.out j hj)
          case measure => simp [intOf]; omega
        refine AllReadyH.cons rfl (fun K hK => ?_) AllReadyH.nil
        go_simp
        (go_at_call 88; refine (sGatNew_c _).mono ?_; rintro E w1 ⟨rfl, hb⟩; have hst := xr hb; (try simp only [zA, zC, zD, zN] at hst); obtain ⟨hc, hf, hz⟩ := hst)
        (try go_wp2_with fail)
        refine hK.out _ _ ?_ (fun hHeldN => ?_)
        focus ((try dsimp only); ((first | with_reducible assumption | with_reducible exact HeldB.start hLb | with_reducible exact HeldB.of (by assumption) (by assumption) | ((repeat (first | with_reducible refine HeldB.set ?_ (by first | exact Or.inl rfl | exact Or.inr (by simp only [zA, zC, zD, zN]; omega) | exact Or.inr (by omega)) | with_reducible refine HeldB.alloc ?_ _ | with_reducible refine HeldB.drew ?_)); (first | with_reducible assumption | with_reducible exact HeldB.refl hLb | with_reducible exact HeldB.of (by assumption) (by assumption) | with_reducible exact HeldB.ex (by assumption) (by assumption))))))
        clear hK K hHeld
        have hHeld := hHeldN
        clear hHeldN
        (try simp only [Act.put, List.setIfInBounds_toArray, List.set_cons_zero, List.set_cons_succ])
        refine wpAnyH_ready (rs := [1, 3]) (by kernel_rfl) (by simp) ?_
        refine AllReadyH.cons rfl (fun K hK => ?_) ?_
        · replace hHeld := Lib.hid hHeld
          replace hB := Lib.hid hB
          go_simp
          replace hHeld := hHeld.out
          replace hB := hB.out
          refine hK.out _ _ ?_ (fun hHeldN => ?_)
          focus ((try dsimp only); ((first | with_reducible assumption | with_reducible exact HeldB.start hLb | with_reducible exact HeldB.of (by assumption) (by assumption) | ((repeat (first | with_reducible refine HeldB.set ?_ (by first | exact Or.inl rfl | exact Or.inr (by simp only [zA, zC, zD, zN]; omega) | exact Or.inr (by omega)) | with_reducible refine HeldB.alloc ?_ _ | with_reducible refine HeldB.drew ?_)); (first | with_reducible assumption | with_reducible exact HeldB.refl hLb | with_reducible exact HeldB.of (by assumption) (by assumption) | with_reducible exact HeldB.ex (by assumption) (by assumption))))))
          clear hK K hHeld
          have hHeld := hHeldN
          clear hHeldN
          (try simp only [Act.put, List.setIfInBounds_toArray, List.set_cons_zero, List.set_cons_succ])
          refine wpAnyH_ready (rs := [3]) (by kernel_rfl) (by simp) ?_
          refine AllReadyH.cons rfl (fun K hK => ?_) AllReadyH.nil
          go_simp
          refine hK.out _ _ ?_ (fun hHeldN => ?_)
          focus ((try dsimp only); ((first | with_reducible assumption | with_reducible exact HeldB.start hLb | with_reducible exact HeldB.of (by assumption) (by assumption) | ((repeat (first | with_reducible refine HeldB.set ?_ (by first | exact Or.inl rfl | exact Or.inr (by simp only [zA, zC, zD, zN]; omega) | exact Or.inr (by omega)) | with_reducible refine HeldB.alloc ?_ _ | with_reducible refine HeldB.drew ?_)); (first | with_reducible assumption | with_reducible exact HeldB.refl hLb | with_reducible exact HeldB.of (by assumption) (by assumption) | with_reducible exact HeldB.ex (by assumption) (by assumption))))))
          clear hK K hHeld
          have hHeld := hHeldN
          clear hHeldN
          (try simp only [Act.put, List.setIfInBounds_toArray, List.set_cons_zero, List.set_cons_succ])
          refine wpAnyH_ready (rs := [4]) (by kernel_rfl) (by simp) ?_
          refine AllReadyH.cons rfl (fun K hK => ?_) AllReadyH.nil
          (apply step_app (lo := W0.heap.size) el_G one_G rfl rfl rfl rfl; (apply Ow.keep ho; (exact kf_)); (refine Rs.new [gv0 ((Sw.hedOf []).getD Sw.headZ)] (by (first | rfl | (simp only [zA, zC, zD, zN]; done) | omega)) rfl rfl (fun _ => rfl) (by omega)); omega; exact sz_; intro A1 c1 w2 ho1 hch1 hat1 hex1 hlow1)
          have hbx := hex1 (· = g1) W0 (HeldB.ch (by assumption : HeldB g1 10 W0 _)) (Nat.le_refl _)
          have hlbx := Lb.low hlow1 hgW (HeldB.lb (by assumption : HeldB g1 10 W0 _))
          have hX8 := low_keep (wr := wr) hch1 hlow1 (by (exact kf_)) hgW hgl
          have hz1 := hch1.size
          (try simp only [zA, zC, zD, zN] at hz1)
          obtain ⟨hcL, hfL⟩ := low_rules hlow1
          clear hex1 hlow1
          (try simp only [Act.put, List.setIfInBounds_toArray, List.set_cons_zero, List.set_cons_succ])
          refine hK.out _ _ ?_ (fun hHeldN => ?_)
          focus ((try dsimp only); ((first | with_reducible assumption | with_reducible exact HeldB.start hLb | with_reducible exact HeldB.of (by assumption) (by assumption) | ((repeat (first | with_reducible refine HeldB.set ?_ (by first | exact Or.inl rfl | exact Or.inr (by simp only [zA, zC, zD, zN]; omega) | exact Or.inr (by omega)) | with_reducible refine HeldB.alloc ?_ _ | with_reducible refine HeldB.drew ?_)); (first | with_reducible assumption | with_reducible exact HeldB.refl hLb | with_reducible exact HeldB.of (by assumption) (by assumption) | with_reducible exact HeldB.ex (by assumption) (by assumption))))))
          clear hK K hHeld
          have hHeld := hHeldN
          clear hHeldN
          (try simp only [Act.put, List.setIfInBounds_toArray, List.set_cons_zero, List.set_cons_succ])
          refine regT 5 27 (v := ?_) rfl rfl (by kernel_rfl) (by kernel_rfl) (by kernel_rfl) (fun _ _ _ h => h) (by rfl) ?_ (by assumption) ?_
          rotate_left
          focus (intro w hSw; (try dsimp only at hSw); go_simp; (try with_reducible rfl))
          (try simp only [Act.put, List.setIfInBounds_toArray, List.set_cons_zero, List.set_cons_succ])
          refine wpAnyH_ready (rs := [6]) (by kernel_rfl) (by simp) ?_
          refine AllReadyH.cons rfl (fun K hK => ?_) AllReadyH.nil
          have hLbx := HeldB.lb hHeld
          obtain ⟨hcx, hfx⟩ := Lb.rules hLbx
          go_simp
          refine hK.out _ _ ?_ (fun hHx => ?_)
          focus ((try dsimp only); ((first | with_reducible assumption | with_reducible exact HeldB.start hLb | with_reducible exact HeldB.of (by assumption) (by assumption) | ((repeat (first | with_reducible refine HeldB.set ?_ (by first | exact Or.inl rfl | exact Or.inr (by simp only [zA, zC, zD, zN]; omega) | exact Or.inr (by omega)) | with_reducible refine HeldB.alloc ?_ _ | with_reducible refine HeldB.drew ?_)); (first | with_reducible assumption | with_reducible exact HeldB.refl hLb | with_reducible exact HeldB.of (by assumption) (by assumption) | with_reducible exact HeldB.ex (by assumption) (by assumption))))))
          clear hK K hHeld
          (try simp only [Act.put, List.setIfInBounds_toArray, List.set_cons_zero, List.set_cons_succ])
          refine wpAnyH_done (by kernel_rfl) ?_ _
          go_wp2_with fail
          go_roundw
          case rel =>
            refine ⟨k + 1, A1, c1, by omega, by go_num, hHx, World.cell?_setCell_same _ _ _ (hcx 8 (by decide)), ?_, ?_⟩
            · rw [List.replicate_succ']; exact Ow.keep ho1 (by (exact kf_))
            · intro j hj; rw [World.cell?_setCell_other _ _ _ _ (by intro e; exact hj (by injection e with _ e; exact e.symm))]; exact (hX8 j).trans (Hr.out j hj)
          case measure => simp [intOf]; omega
        refine AllReadyH.cons rfl (fun K hK => ?_) AllReadyH.nil
        go_simp
        refine hK.out _ _ ?_ (fun hHeldN => ?_)
        focus ((try dsimp only); ((first | with_reducible assumption | with_reducible exact HeldB.start hLb | with_reducible exact HeldB.of (by assumption) (by assumption) | ((repeat (first | with_reducible refine HeldB.set ?_ (by first | exact Or.inl rfl | exact Or.inr (by simp only [zA, zC, zD, zN]; omega) | exact Or.inr (by omega)) | with_reducible refine HeldB.alloc ?_ _ | with_reducible refine HeldB.drew ?_)); (first | with_reducible assumption | with_reducible exact HeldB.refl hLb | with_reducible exact HeldB.of (by assumption) (by assumption) | with_reducible exact HeldB.ex (by assumption) (by assumption))))))
        clear hK K hHeld
        have hHeld := hHeldN
        clear hHeldN
        (try simp only [Act.put, List.setIfInBounds_toArray, List.set_cons_zero, List.set_cons_succ])
        refine wpAnyH_ready (rs := [1]) (by kernel_rfl) (by simp) ?_
        refine AllReadyH.cons rfl (fun K hK => ?_) AllReadyH.nil
        replace hHeld := Lib.hid hHeld
        replace hB := Lib.hid hB
        go_simp
        replace hHeld := hHeld.out
        replace hB := hB.out
        refine hK.out _ _ ?_ (fun hHeldN => ?_)
        focus ((try dsimp only); ((first | with_reducible assumption | with_reducible exact HeldB.start hLb | with_reducible exact HeldB.of (by assumption) (by assumption) | ((repeat (first | with_reducible refine HeldB.set ?_ (by first | exact Or.inl rfl | exact Or.inr (by simp only [zA, zC, zD, zN]; omega) | exact Or.inr (by omega)) | with_reducible refine HeldB.alloc ?_ _ | with_reducible refine HeldB.drew ?_)); (first | with_reducible assumption | with_reducible exact HeldB.refl hLb | with_reducible exact HeldB.of (by assumption) (by assumption) | with_reducible exact HeldB.ex (by assumption) (by assumption))))))
        clear hK K hHeld
        have hHeld := hHeldN
        clear hHeldN
        (try simp only [Act.put, List.setIfInBounds_toArray, List.set_cons_zero, List.set_cons_succ])
        refine wpAnyH_ready (rs := [4]) (by kernel_rfl) (by simp) ?_
        refine AllReadyH.cons rfl (fun K hK => ?_) AllReadyH.nil
        (apply step_app (lo := W0.heap.size) el_G one_G rfl rfl rfl rfl; (apply Ow.keep ho; (exact kf_)); (refine Rs.new [gv0 ((Sw.hedOf []).getD Sw.headZ)] (by (first | rfl | (simp only [zA, zC, zD, zN]; done) | omega)) rfl rfl (fun _ => rfl) (by omega)); omega; exact sz_; intro A1 c1 w2 ho1 hch1 hat1 hex1 hlow1)
        have hbx := hex1 (· = g1) W0 (HeldB.ch (by assumption : HeldB g1 10 W0 _)) (Nat.le_refl _)
        have hlbx := Lb.low hlow1 hgW (HeldB.lb (by assumption : HeldB g1 10 W0 _))
        have hX8 := low_keep (wr := wr) hch1 hlow1 (by (exact kf_)) hgW hgl
        have hz1 := hch1.size
        (try simp only [zA, zC, zD, zN] at hz1)
        obtain ⟨hcL, hfL⟩ := low_rules hlow1
        clear hex1 hlow1
        (try simp only [Act.put, List.setIfInBounds_toArray, List.set_cons_zero, List.set_cons_succ])
        refine hK.out _ _ ?_ (fun hHeldN => ?_)
        focus ((try dsimp only); ((first | with_reducible assumption | with_reducible exact HeldB.start hLb | with_reducible exact HeldB.of (by assumption) (by assumption) | ((repeat (first | with_reducible refine HeldB.set ?_ (by first | exact Or.inl rfl | exact Or.inr (by simp only [zA, zC, zD, zN]; omega) | exact Or.inr (by omega)) | with_reducible refine HeldB.alloc ?_ _ | with_reducible refine HeldB.drew ?_)); (first | with_reducible assumption | with_reducible exact HeldB.refl hLb | with_reducible exact HeldB.of (by assumption) (by assumption) | with_reducible exact HeldB.ex (by assumption) (by assumption))))))
        clear hK K hHeld
        have hHeld := hHeldN
        clear hHeldN
        (try simp only [Act.put, List.setIfInBounds_toArray, List.set_cons_zero, List.set_cons_succ])
        refine regT 5 27 (v := ?_) rfl rfl (by kernel_rfl) (by kernel_rfl) (by kernel_rfl) (fun _ _ _ h => h) (by rfl) ?_ (by assumption) ?_
        rotate_left
        focus (intro w hSw; (try dsimp only at hSw); go_simp; (try with_reducible rfl))
        (try simp only [Act.put, List.setIfInBounds_toArray, List.set_cons_zero, List.set_cons_succ])
        refine wpAnyH_ready (rs := [6]) (by kernel_rfl) (by simp) ?_
        refine AllReadyH.cons rfl (fun K hK => ?_) AllReadyH.nil
        have hLbx := HeldB.lb hHeld
        obtain ⟨hcx, hfx⟩ := Lb.rules hLbx
        go_simp
        refine hK.out _ _ ?_ (fun hHx => ?_)
        focus ((try dsimp only); ((first | with_reducible assumption | with_reducible exact HeldB.start hLb | with_reducible exact HeldB.of (by assumption) (by assumption) | ((repeat (first | with_reducible refine HeldB.set ?_ (by first | exact Or.inl rfl | exact Or.inr (by simp only [zA, zC, zD, zN]; omega) | exact Or.inr (by omega)) | with_reducible refine HeldB.alloc ?_ _ | with_reducible refine HeldB.drew ?_)); (first | with_reducible assumption | with_reducible exact HeldB.refl hLb | with_reducible exact HeldB.of (by assumption) (by assumption) | with_reducible exact HeldB.ex (by assumption) (by assumption))))))
        clear hK K hHeld
        (try simp only [Act.put, List.setIfInBounds_toArray, List.set_cons_zero, List.set_cons_succ])
        refine wpAnyH_done (by kernel_rfl) ?_ _
        go_wp2_with fail
        go_roundw
        case rel =>
          refine ⟨k + 1, A1, c1, by omega, by go_num, hHx, World.cell?_setCell_same _ _ _ (hcx 8 (by decide)), ?_, ?_⟩
          · rw [List.replicate_succ']; exact Ow.keep ho1 (by (exact kf_))
          · intro j hj; rw [World.cell?_setCell_other _ _ _ _ (by intro e; exact hj (by injection e with _ e; exact e.symm))]; exact (hX8 j).trans (Hr.out j hj)
        case measure => simp [intOf]; omega
      · obtain rfl : k = 2 := by omega
        have p0 := (hrest 0 (by decide)).trans q0
        have p1 := (hrest 1 (by decide)).trans q1
        have p2 := (hrest 2 (by decide)).trans q2
        have p3 := (hrest 3 (by decide)).trans q3
        have p4 := (hrest 4 (by decide)).trans q4
        have p5 := (hrest 5 (by decide)).trans q5
        have p6 := (hrest 6 (by decide)).trans q6
        have p7 := (hrest 7 (by decide)).trans q7
        have p9 := (hrest 9 (by decide)).trans q9
        clear hrest
        have hb := hB.ch
        have hLz := hB.lb.lt
        obtain ⟨hcz, hfz⟩ := Lb.rules (Lb.chk hB.ch hLw (fun e => by omega))
        clear hB
        go_wp2_with fail
        refine bodyPost_ret (v := .agg #[.slice A0 5 c0, .slice bL bLn bLc, .slice bP 5 bPc, .slice bD bDn bDc, .int .i64 (Sw.mktNew xs).clock, .slice bN bNn bNc, .slice bS bSn bSc, .slice none 0 0, .slice A' 2 c', .slice none 0 0]) (by simp [results, Try.results34, go_sem, *]) rfl ?_
        refine ⟨A0, c0, 5, bL, bLc, bLn, bP, bPc, 5, bD, bDc, bDn, bN, bNc, bNn, bS, bSc, bSn, A', c', 2, glue τm w1.heap.size (glue τ W0.heap.size (fun _ => 8)), by rw [He.out], ?_, ext_⟩
        rw [He.out]
        refine ⟨?_, ?_, ?_, by simp [Sw.gatNew], rfl, rfl⟩
        · have hT : glue τm w1.heap.size (glue τ W0.heap.size (fun _ => 8)) g1 = 7 := by unfold glue; rw [if_neg (by omega), if_pos hgW]; exact ht1
          have t1 := (t0.glueL (τ' := fun _ => 8) (k := W0.heap.size) (by omega)).glueR (k := w1.heap.size) (τ' := τm) (by omega)
          have hcw : Ch (· = g1) wx W0 := Ch.ex (by repeat (first | with_reducible exact Ch.refl _ _ | (with_reducible refine Ch.setCell ?_ ?_ _; rotate_left; (focus exact Or.inl rfl)))) hb0
          have t2 := OwT.keep t1 (KT.ch (Ch.trans hcw hb) (KT.refl _ _ _ _) (fun i hi => .inr (by rw [show i = g1 from hi, hT]; decide)))
          exact (t2.keepF (by (exact kf_))).less (by omega)
        · exact ((hoM.glueL (Nat.le_refl _)).keepF (by (exact kf_))).less (by simp)
        · exact ((OwT.fresh (τ := glue τm w1.heap.size (glue τ W0.heap.size (fun _ => 8))) (t := 8) ho (fun b h1 h2 => by unfold glue; rw [if_neg (by omega), if_neg (by omega)])).keepF (by (exact kf_))).less (by omega)
  case refine_2 =>
    rintro n l a wx ⟨hk, hHeld, hup, l0, r0, r1, r2, v0, u0, u1, u2, τ, hn0, rfl, rfl, C0, C1, C2⟩ he
    obtain rfl : l0 = true := by (cases l0 with | true => rfl | false => exact absurd he (ready_ne (i := 0) (by kernel_rfl)))
    obtain rfl : r0 = true := by (cases r0 with | true => rfl | false => exact absurd he (ready_ne (i := 2) (by kernel_rfl)))
    obtain rfl : r2 = true := by (cases r2 with | true => rfl | false => exact absurd he (ready_ne (i := 4) (by kernel_rfl)))
    obtain rfl : r1 = true := by (cases r1 with | true => rfl | false => exact absurd he (ready_ne (i := 5) (by kernel_rfl)))
    simp [cb] at hn0
  case refine_3 =>
    rintro n l a wx ⟨hk, hHeld, hup, l0, r0, r1, r2, v0, u0, u1, u2, τ, hn0, rfl, rfl, C0, C1, C2⟩ i hi
    obtain ⟨hi0, oi, ho, hdep⟩ := mem_ready.1 hi
    clear hi
    have hin : i < 7 := (Array.getElem?_eq_some_iff.1 ho).1
    rcases (show i = 0 ∨ i = 1 ∨ i = 2 ∨ i = 3 ∨ i = 4 ∨ i = 5 ∨ i = 6 by omega) with rfl | rfl | rfl | rfl | rfl | rfl | rfl
    · -- 0
      obtain rfl : l0 = false := hi0
      cases C0
      clear ho hdep
      refine wpOp_step rfl fun K hK => ?_
      go_simp
      refine hK _ _ ⟨hHeld.alloc _, hk.alloc, hHeld.alloc _, (by simp; omega), true, false, r1, r2, .slice (some ⟨wx.heap.size, 0, none⟩) 0 0, u0, u1, u2, glue τ wx.heap.size (fun _ => 6), ?_, rfl, rfl, .made _ _ _ (OwT.begun (Ow.new [] rfl rfl rfl (fun _ => rfl) (by omega) (by omega))), C1.alloc, (C2.chg _)⟩
      simp only [cb] at hn0 ⊢; simp at hn0 ⊢; omega
    · -- 1
      exact Bool.noConfusion (show true = false from hi0)
    · -- 2
      obtain rfl : r0 = false := hi0
      obtain rfl := Option.some.inj (show some _ = some oi from ho)
      have d := hdep ⟨0, .data⟩ (by simp) rfl
      obtain rfl : l0 = true := d
      clear ho hdep
      obtain ⟨Ax, cx, rfl, ht⟩ : ∃ A c, v0 = .slice A 0 c ∧ OwT encI 1 3 τ 6 wx W0.heap.size A c 0 [] := by (cases C0; exact ⟨_, _, rfl, by assumption⟩)
      clear C0
      refine wpOp_step rfl fun K hK => ?_
      apply step_app el_I one_I rfl rfl rfl rfl ht.ow (Rs.at0 hxs hk) (by omega) hup
      intro A1 c1 w2 ho1 hch1 hat1 hex1 hlow1
      rw [List.nil_append] at ho1; simp only [Nat.zero_add] at ho1
      have hbx := hex1 (· = (w.heap.size)) W0 hHeld.ch (Nat.le_refl _)
      have hlbx := Lb.low hlow1 hlt0 hHeld.lb
      simp only [Nat.zero_add]
      have hKF : KF 0 w w2 := kL ⟨hch1.size, hlow1⟩ hk (by omega)
      refine hK _ _ ⟨HeldB.of hbx hlbx, hKF, HeldB.of hbx hlbx, Nat.le_trans hup hch1.size, true, true, r1, r2, .slice Ax 0 cx, .slice A1 5 c1, u1, u2, glue τ wx.heap.size (fun _ => 6), ?_, rfl, rfl, .done _ _ _ (OwT.full ho1 ht hat1), C1.app hch1 ht.tag (by decide), (C2.chg _)⟩
      simp only [cb] at hn0 ⊢; simp at hn0 ⊢; omega
    · -- 3
      exact Bool.noConfusion (show true = false from hi0)
    · -- 4
      obtain rfl : r2 = false := hi0
      obtain rfl := Option.some.inj (show some _ = some oi from ho)
      obtain rfl : r0 = true := hdep ⟨2, .data⟩ (by simp) rfl
      clear ho hdep
      obtain ⟨A1, c1, rfl, ht⟩ : ∃ A c, u0 = .slice A 5 c ∧ OwT encI 1 3 τ 6 wx W0.heap.size A c 5 xs := by (cases C0; exact ⟨_, _, rfl, by assumption⟩)
      cases C2
      refine wpOp_step rfl fun K hK => ?_
      go_simp
      refine hK _ _ ⟨hHeld, hk, hHeld, hup, l0, true, r1, true, v0, (.slice A1 5 c1), u1, (fun u => .agg #[u, .slice bL bLn bLc, .slice bP 5 bPc, .slice bD bDn bDc, .int .i64 (Sw.mktNew xs).clock, .slice bN bNn bNc, .slice bS bSn bSc, .slice none 0 0, .slice none 0 0, .slice none 0 0]) (.slice A1 5 c1), τ, ?_, rfl, rfl, C0, C1, .done⟩
      simp only [cb] at hn0 ⊢; simp at hn0 ⊢; omega
    · -- 5
      obtain rfl : r1 = false := hi0
      cases C1
      clear ho hdep
      refine wpOp_step rfl fun K hK => ?_
      go_simp
      refine hK _ _ ⟨hHeld.alloc _, hk.alloc, hHeld.alloc _, (by simp; omega), l0, r0, true, r2, v0, u0, .pointer (some ⟨wx.heap.size, 0, none⟩), u2, glue τ wx.heap.size (fun _ => 7), ?_, rfl, rfl, C0.alloc, .done _ hup (Lb.new rfl (by kernel_rfl)) (by unfold glue; rw [if_neg (Nat.lt_irrefl _)]), C2⟩
      simp only [cb] at hn0 ⊢; simp at hn0 ⊢; omega
    · -- 6
      obtain rfl := Option.some.inj (show some _ = some oi from ho)
      obtain rfl : r1 = true := hdep ⟨5, .data⟩ (by simp) rfl
      obtain rfl : r2 = true := hdep ⟨4, .data⟩ (by simp) rfl
      obtain rfl : r0 = true := by (cases C2; rfl)
      obtain rfl : l0 = true := by (cases C0; rfl)
      simp [cb] at hn0
theorem iWldNew_c (A : Option Addr) (c n : Nat) (xs : List Int) (w : World) (hxs : RI w 0 A c n xs) : Calls Try.prog 32 #[.slice A n c] w fun E w' => ∃ F Fc Fn bL bLc bLn bP bPc bPn bD bDc bDn bN bNc bNn bS bSc bSn G Gc Gn τ, E = .returned (.agg #[.slice F Fn Fc, .slice bL bLn bLc, .slice bP bPn bPc, .slice bD bDn bDc, .int .i64 (Sw.wldNew xs).market.clock, .slice bN bNn bNc, .slice bS bSn bSc, .slice none 0 0, .slice G Gn Gc, .slice none 0 0]) ∧ WN τ w' w.heap.size F Fc Fn bL bLc bLn bP bPc bPn bD bDc bDn bN bNc bNn bS bSc bSn G Gc Gn (Sw.wldNew xs) ∧ Ex w w' := by
  by_cases gv : (Sw.monOk xs && decide (Sw.monSum xs ≤ 100000)) = true
  case neg =>
    have e : Sw.wldNew xs = Sw.worldZ := by unfold Sw.wldNew; rw [if_neg gv]
    have em : Sw.mktNew xs = Sw.mktZ := by unfold Sw.mktNew; rw [if_neg gv]
    have He := Lib.hid e; have Hm := Lib.hid em; clear e em gv
    go_enter Try.func32, Try.ntmps32
    go_wp2_with fail
    apply Calls.mono
    apply iMktNew_c
    · apply Rs.at0 hxs; (exact kf_)
    rintro E w1 ⟨bL, bLc, bLn, bP, bPc, bPn, bD, bDc, bDn, bN, bNc, bNn, bS, bSc, bSn, τm, rfl, hoM, hb⟩
    obtain rfl : bPn = 0 := by have := hoM.purses.ow.1; rw [Hm.out] at this; exact this
    have hst := xr hb; (try simp only [zA, zC, zD, zN] at hst); obtain ⟨hc, hf, hz⟩ := hst
    go_wp2_with fail
    refine bodyPost_ret (v := .agg #[.slice none 0 0, .slice none 0 0, .slice none 0 0, .slice none 0 0, .int .i64 0, .slice none 0 0, .slice none 0 0, .slice none 0 0, .slice none 0 0, .slice none 0 0]) (by simp [results, Try.results32, go_sem, *]) rfl ?_
    refine ⟨_, _, _, _, _, _, _, _, _, _, _, _, _, _, _, _, _, _, _, _, _, fun _ => 0, by rw [He.out]; rfl, ?_, ext_⟩
    rw [He.out]
    exact WN.zero
  have e : Sw.wldNew xs = ⟨xs, Sw.mktNew xs, [], [Sw.gatNew, Sw.gatNew], []⟩ := by unfold Sw.wldNew; rw [if_pos gv]
  have em : Sw.mktNew xs = ⟨[], xs, [], 0, [0, 0, 0, 0, 0], [0, 0, 0, 0, 0]⟩ := by unfold Sw.mktNew; rw [if_pos gv]
  have h5 : xs.length = 5 := monOk_len (Bool.and_eq_true_iff.1 gv).1
  have hn5 : n = 5 := by rw [hxs.1, h5]
  subst hn5
  have He := Lib.hid e; have Hm := Lib.hid em; have H5 := Lib.hid h5; clear e em gv h5
  go_enter Try.func32, Try.ntmps32
  go_wp2_with fail
  apply Calls.mono
  apply iMktNew_c
  · apply Rs.at0 hxs; (exact kf_)
  rintro E w1 ⟨bL, bLc, bLn, bP, bPc, bPn, bD, bDc, bDn, bN, bNc, bNn, bS, bSc, bSn, τm, rfl, hoM, hb⟩
  have hbM := hb
  obtain rfl : bPn = 5 := by have := hoM.purses.ow.1; rw [Hm.out] at this; exact this.trans H5.out
  have hst := xr hb; (try simp only [zA, zC, zD, zN] at hst); obtain ⟨hc, hf, hz⟩ := hst
  go_wp2_with fail
  (refine wp_name ?_; intro W0 hb0; have hst := xr hb0; (try simp only [zA, zC, zD, zN] at hst); obtain ⟨hc0, hf0, hz0⟩ := hst; have hLb : Lb W0 (w.heap.size) 10 := Lb.ex (by exact lbc_) hb0; refine wp_region_held_drew (S := fun w' => HeldB (w.heap.size) 10 W0 w') (by kernel_rfl) ?_ (fun hHeld => ?_); (focus ((try dsimp only); (first | with_reducible assumption | with_reducible exact HeldB.start hLb | with_reducible exact HeldB.of (by assumption) (by assumption) | ((repeat (first | with_reducible refine HeldB.set ?_ (by first | exact Or.inl rfl | exact Or.inr (by simp only [zA, zC, zD, zN]; omega) | exact Or.inr (by omega)) | with_reducible refine HeldB.alloc ?_ _ | with_reducible refine HeldB.drew ?_)); (first | with_reducible assumption | with_reducible exact HeldB.refl hLb | with_reducible exact HeldB.of (by assumption) (by assumption) | with_reducible exact HeldB.ex (by assumption) (by assumption)))))); refine regT 0 12 (v := ?_) rfl rfl (by kernel_rfl) (by kernel_rfl) (by kernel_rfl) (fun _ _ _ h => h) (by rfl) ?_ (by assumption) ?_; rotate_left; (focus (intro w hSw; (try dsimp only at hSw); (try (have hst := xc (HeldB.ch hSw); (try simp only [zA, zC, zD, zN] at hst); obtain ⟨hcS, hfS, hzS⟩ := hst)); go_simp; (try with_reducible rfl))); (try simp only [Act.put, List.setIfInBounds_toArray, List.set_cons_zero, List.set_cons_succ]); refine regT 2 14 (v := ?_) rfl rfl (by kernel_rfl) (by kernel_rfl) (by kernel_rfl) (fun _ _ _ h => h) (by rfl) ?_ (by assumption) ?_; rotate_left; (focus (intro w hSw; (try dsimp only at hSw); (try (have hst := xc (HeldB.ch hSw); (try simp only [zA, zC, zD, zN] at hst); obtain ⟨hcS, hfS, hzS⟩ := hst)); go_simp; (try with_reducible rfl))); (try simp only [Act.put, List.setIfInBounds_toArray, List.set_cons_zero, List.set_cons_succ]))
  have hlt0 : w.heap.size < W0.heap.size := hLb.lt
  refine wpAnyH_inv (Inv := NewWI A c xs w1.heap.size bL bLc bLn bP bPc 5 bD bDc bDn bN bNc bNn bS bSc bSn (Sw.mktNew xs).clock w W0) (k := 1) ?_ ?_ ?_ 3 _ _ _ ?_
  case refine_4 =>
    exact ⟨by (exact kf_), hHeld, Nat.le_refl _, false, false, false, undef, undef, undef, fun _ => 0, rfl, by kernel_rfl, rfl, .none _, .none _, .none _ _⟩
  case refine_1 =>
    rintro l a wx ⟨hk, hHeld, hup, r0, r1, r2, u0, u1, u2, τ, hn0, rfl, rfl, C0, C1, C2⟩
    obtain rfl : r0 = true := by cases r0 <;> first | rfl | (exfalso; revert hn0; simp [cb]; done) | (exfalso; revert hn0; simp [cb]; omega)
    obtain rfl : r1 = true := by cases r1 <;> first | rfl | (exfalso; revert hn0; simp [cb]; done) | (exfalso; revert hn0; simp [cb]; omega)
    obtain rfl : r2 = true := by cases r2 <;> first | rfl | (exfalso; revert hn0; simp [cb]; done) | (exfalso; revert hn0; simp [cb]; omega)
    obtain rfl : u2 = (fun u => .agg #[u, .slice bL bLn bLc, .slice bP 5 bPc, .slice bD bDn bDc, .int .i64 (Sw.mktNew xs).clock, .slice bN bNn bNc, .slice bS bSn bSc, .slice none 0 0, .slice none 0 0, .slice none 0 0]) u0 := by (cases C2; rfl)
    obtain ⟨A0, c0, rfl, t0⟩ : ∃ A c, u0 = .slice A 5 c ∧ OwT encI 1 3 τ 6 wx W0.heap.size A c 5 xs := by (cases C0; exact ⟨_, _, rfl, by assumption⟩)
    obtain ⟨g1, rfl, hg1, hLg1, ht1⟩ : ∃ g, u1 = .pointer (some ⟨g, 0, none⟩) ∧ W0.heap.size ≤ g ∧ Lb wx g 10 ∧ τ g = 7 := by (cases C1; exact ⟨_, rfl, by assumption, by assumption, by assumption⟩)
    clear C0 C1 C2 hn0
    refine wpAnyH_ready (rs := [5]) (by kernel_rfl) (by simp) ?_
    refine AllReadyH.cons rfl (fun K hK => ?_) ?_
    rotate_left
    focus exact AllReadyH.nil
    have hLbx := hLg1
    obtain ⟨hcx, hfx⟩ := Lb.rules hLbx
    go_simp
    refine hK.out _ _ ?_ (fun hHx => ?_)
    focus ((first | with_reducible assumption | with_reducible exact HeldB.start hLb | with_reducible exact HeldB.of (by assumption) (by assumption) | ((repeat (first | with_reducible refine HeldB.set ?_ (by first | exact Or.inl rfl | exact Or.inr (by simp only [zA, zC, zD, zN]; omega) | exact Or.inr (by omega)) | with_reducible refine HeldB.alloc ?_ _ | with_reducible refine HeldB.drew ?_)); (first | with_reducible assumption | with_reducible exact HeldB.refl hLb | with_reducible exact HeldB.of (by assumption) (by assumption) | with_reducible exact HeldB.ex (by assumption) (by assumption)))))
    have hb := hHeld.ch
    clear hK K hHeld hcx hfx hLbx
    (have hst := xc hb; (try simp only [zA, zC, zD, zN] at hst); obtain ⟨hc, hf, hz⟩ := hst)
    have hLb3 := HeldB.lb hHx
    repeat (replace hLb3 := Lb.unset hLb3)
    obtain ⟨hcb, hfb⟩ := Lb.rules hLg1
    have hbf := HeldB.ch hHx
    clear hHx
    refine wpAnyH_done (by kernel_rfl) ?_ _
    go_wp2_with fail
    (refine wp_name ?_; intro W0 hb0; have hst := xr hb0; (try simp only [zA, zC, zD, zN] at hst); obtain ⟨hc0, hf0, hz0⟩ := hst)
    have hLb : Lb W0 g1 10 := Lb.ex (by exact lbc_) hb0
    have hgW : g1 < W0.heap.size := hLb.lt
    have hLw : Lb W0 w.heap.size 10 := Lb.ex (by exact lbc_) hb0
    have q0 : W0.cell? ⟨g1, 0, none⟩ = some (.slice A0 5 c0) := by ((refine (World.cell?_of_block (a := ⟨g1, 0, none⟩) (hb0.block g1 (by simpa [World.setCell] using hLg1.lt) (fun h => h))).trans ?_); (repeat (first | (refine (World.cell?_setCell_other _ _ _ _ (ne_off ?_)).trans ?_; focus decide) | fail)); refine World.cell?_setCell_same _ _ _ (u := peek wx ⟨g1, 0, none⟩) ?_; (repeat (first | (refine (World.cell?_setCell_other _ _ _ _ (ne_off ?_)).trans ?_; focus decide) | fail)); exact hcb 0 (by decide))
    have q1 : W0.cell? ⟨g1, 1, none⟩ = some (.slice bL bLn bLc) := by ((refine (World.cell?_of_block (a := ⟨g1, 1, none⟩) (hb0.block g1 (by simpa [World.setCell] using hLg1.lt) (fun h => h))).trans ?_); (repeat (first | (refine (World.cell?_setCell_other _ _ _ _ (ne_off ?_)).trans ?_; focus decide) | fail)); refine World.cell?_setCell_same _ _ _ (u := peek wx ⟨g1, 1, none⟩) ?_; (repeat (first | (refine (World.cell?_setCell_other _ _ _ _ (ne_off ?_)).trans ?_; focus decide) | fail)); exact hcb 1 (by decide))
    have q2 : W0.cell? ⟨g1, 2, none⟩ = some (.slice bP 5 bPc) := by ((refine (World.cell?_of_block (a := ⟨g1, 2, none⟩) (hb0.block g1 (by simpa [World.setCell] using hLg1.lt) (fun h => h))).trans ?_); (repeat (first | (refine (World.cell?_setCell_other _ _ _ _ (ne_off ?_)).trans ?_; focus decide) | fail)); refine World.cell?_setCell_same _ _ _ (u := peek wx ⟨g1, 2, none⟩) ?_; (repeat (first | (refine (World.cell?_setCell_other _ _ _ _ (ne_off ?_)).trans ?_; focus decide) | fail)); exact hcb 2 (by decide))
    have q3 : W0.cell? ⟨g1, 3, none⟩ = some (.slice bD bDn bDc) := by ((refine (World.cell?_of_block (a := ⟨g1, 3, none⟩) (hb0.block g1 (by simpa [World.setCell] using hLg1.lt) (fun h => h))).trans ?_); (repeat (first | (refine (World.cell?_setCell_other _ _ _ _ (ne_off ?_)).trans ?_; focus decide) | fail)); refine World.cell?_setCell_same _ _ _ (u := peek wx ⟨g1, 3, none⟩) ?_; (repeat (first | (refine (World.cell?_setCell_other _ _ _ _ (ne_off ?_)).trans ?_; focus decide) | fail)); exact hcb 3 (by decide))
    have q4 : W0.cell? ⟨g1, 4, none⟩ = some (.int .i64 (Sw.mktNew xs).clock) := by ((refine (World.cell?_of_block (a := ⟨g1, 4, none⟩) (hb0.block g1 (by simpa [World.setCell] using hLg1.lt) (fun h => h))).trans ?_); (repeat (first | (refine (World.cell?_setCell_other _ _ _ _ (ne_off ?_)).trans ?_; focus decide) | fail)); refine World.cell?_setCell_same _ _ _ (u := peek wx ⟨g1, 4, none⟩) ?_; (repeat (first | (refine (World.cell?_setCell_other _ _ _ _ (ne_off ?_)).trans ?_; focus decide) | fail)); exact hcb 4 (by decide))
    have q5 : W0.cell? ⟨g1, 5, none⟩ = some (.slice bN bNn bNc) := by ((refine (World.cell?_of_block (a := ⟨g1, 5, none⟩) (hb0.block g1 (by simpa [World.setCell] using hLg1.lt) (fun h => h))).trans ?_); (repeat (first | (refine (World.cell?_setCell_other _ _ _ _ (ne_off ?_)).trans ?_; focus decide) | fail)); refine World.cell?_setCell_same _ _ _ (u := peek wx ⟨g1, 5, none⟩) ?_; (repeat (first | (refine (World.cell?_setCell_other _ _ _ _ (ne_off ?_)).trans ?_; focus decide) | fail)); exact hcb 5 (by decide))
    have q6 : W0.cell? ⟨g1, 6, none⟩ = some (.slice bS bSn bSc) := by ((refine (World.cell?_of_block (a := ⟨g1, 6, none⟩) (hb0.block g1 (by simpa [World.setCell] using hLg1.lt) (fun h => h))).trans ?_); (repeat (first | (refine (World.cell?_setCell_other _ _ _ _ (ne_off ?_)).trans ?_; focus decide) | fail)); refine World.cell?_setCell_same _ _ _ (u := peek wx ⟨g1, 6, none⟩) ?_; (repeat (first | (refine (World.cell?_setCell_other _ _ _ _ (ne_off ?_)).trans ?_; focus decide) | fail)); exact hcb 6 (by decide))
    have q7 : W0.cell? ⟨g1, 7, none⟩ = some (.slice none 0 0) := by ((refine (World.cell?_of_block (a := ⟨g1, 7, none⟩) (hb0.block g1 (by simpa [World.setCell] using hLg1.lt) (fun h => h))).trans ?_); (repeat (first | (refine (World.cell?_setCell_other _ _ _ _ (ne_off ?_)).trans ?_; focus decide) | fail)); refine World.cell?_setCell_same _ _ _ (u := peek wx ⟨g1, 7, none⟩) ?_; (repeat (first | (refine (World.cell?_setCell_other _ _ _ _ (ne_off ?_)).trans ?_; focus decide) | fail)); exact hcb 7 (by decide))
    have q8 : W0.cell? ⟨g1, 8, none⟩ = some (.slice none 0 0) := by ((refine (World.cell?_of_block (a := ⟨g1, 8, none⟩) (hb0.block g1 (by simpa [World.setCell] using hLg1.lt) (fun h => h))).trans ?_); (repeat (first | (refine (World.cell?_setCell_other _ _ _ _ (ne_off ?_)).trans ?_; focus decide) | fail)); refine World.cell?_setCell_same _ _ _ (u := peek wx ⟨g1, 8, none⟩) ?_; (repeat (first | (refine (World.cell?_setCell_other _ _ _ _ (ne_off ?_)).trans ?_; focus decide) | fail)); exact hcb 8 (by decide))
    have q9 : W0.cell? ⟨g1, 9, none⟩ = some (.slice none 0 0) := by ((refine (World.cell?_of_block (a := ⟨g1, 9, none⟩) (hb0.block g1 (by simpa [World.setCell] using hLg1.lt) (fun h => h))).trans ?_); (repeat (first | (refine (World.cell?_setCell_other _ _ _ _ (ne_off ?_)).trans ?_; focus decide) | fail)); refine World.cell?_setCell_same _ _ _ (u := peek wx ⟨g1, 9, none⟩) ?_; (repeat (first | (refine (World.cell?_setCell_other _ _ _ _ (ne_off ?_)).trans ?_; focus decide) | fail)); exact hcb 9 (by decide))
    go_loopw [16] (fun i wr => ∃ (k : Nat) (A' : Option Addr) (c' : Nat), k ≤ 2 ∧ i = .int .i64 k ∧ HeldB g1 10 W0 wr ∧ wr.cell? ⟨g1, 8, none⟩ = some (.slice A' k c') ∧ OwGV wr W0.heap.size A' c' k (List.replicate k (gv0 ((Sw.hedOf []).getD Sw.headZ))) ∧ (∀ j, j ≠ 8 → wr.cell? ⟨g1, j, none⟩ = W0.cell? ⟨g1, j, none⟩)) (fun i _ => 2 - (intOf i).toNat)
    case atStart => exact ⟨0, none, 0, by omega, rfl, HeldB.refl hLb, q8, Ow.nil _ _, fun _ _ => rfl⟩
    case round =>
      obtain ⟨k, A', c', hk2, rfl, hB, hq, ho, hrest⟩ := hrel
      have hgl : g1 < wr.heap.size := hB.lb.lt
      have hszW : W0.heap.size ≤ wr.heap.size := hB.ch.size
      by_cases hlt : k < 2
      · have Hr := Lib.hid hrest; clear hrest
        go_wp2_with fail
        refine wp_region_held_drew (S := fun w' => HeldB g1 10 W0 w') (by kernel_rfl) ?_ (fun hHeld => ?_)
        focus ((try dsimp only); ((first | with_reducible assumption | with_reducible exact HeldB.start hLb | with_reducible exact HeldB.of (by assumption) (by assumption) | ((repeat (first | with_reducible refine HeldB.set ?_ (by first | exact Or.inl rfl | exact Or.inr (by simp only [zA, zC, zD, zN]; omega) | exact Or.inr (by omega)) | with_reducible refine HeldB.alloc ?_ _ | with_reducible refine HeldB.drew ?_)); (first | with_reducible assumption | with_reducible exact HeldB.refl hLb | with_reducible exact HeldB.of (by assumption) (by assumption) | with_reducible exact HeldB.ex (by assumption) (by assumption))))))
        refine regT 0 18 (v := ?_) rfl rfl (by kernel_rfl) (by kernel_rfl) (by kernel_rfl) (fun _ _ _ h => h) (by rfl) ?_ (by assumption) ?_
        rotate_left
        focus (intro w hSw; (try dsimp only at hSw); go_simp; (try with_reducible rfl))
        (try simp only [Act.put, List.setIfInBounds_toArray, List.set_cons_zero, List.set_cons_succ])
        refine wpAnyH_ready (rs := [1, 2]) (by kernel_rfl) (by simp) ?_
        refine AllReadyH.cons rfl (fun K hK => ?_) ?_
        · replace hHeld := Lib.hid hHeld
          replace hB := Lib.hid hB
          go_simp
          replace hHeld := hHeld.out
          replace hB := hB.out
          refine hK.out _ _ ?_ (fun hHeldN => ?_)
          focus ((try dsimp only); ((first | with_reducible assumption | with_reducible exact HeldB.start hLb | with_reducible exact HeldB.of (by assumption) (by assumption) | ((repeat (first | with_reducible refine HeldB.set ?_ (by first | exact Or.inl rfl | exact Or.inr (by simp only [zA, zC, zD, zN]; omega) | exact Or.inr (by omega)) | with_reducible refine HeldB.alloc ?_ _ | with_reducible refine HeldB.drew ?_)); (first | with_reducible assumption | with_reducible exact HeldB.refl hLb | with_reducible exact HeldB.of (by assumption) (by assumption) | with_reducible exact HeldB.ex (by assumption) (by assumption))))))
          clear hK K hHeld
          have hHeld := hHeldN
          clear hHeldN
          (try simp only [Act.put, List.setIfInBounds_toArray, List.set_cons_zero, List.set_cons_succ])
          refine wpAnyH_ready (rs := [2]) (by kernel_rfl) (by simp) ?_
          refine AllReadyH.cons rfl (fun K hK => ?_) AllReadyH.nil
          go_simp
          (go_at_call 36; refine (iGatNew_c _).mono ?_; rintro E w1 ⟨rfl, hb⟩; have hst := xr hb; (try simp only [zA, zC, zD, zN] at hst); obtain ⟨hc, hf, hz⟩ := hst)
          (try go_wp2_with fail)
          refine hK.out _ _ ?_ (fun hHeldN => ?_)
          focus ((try dsimp only); ((first | with_reducible assumption | with_reducible exact HeldB.start hLb | with_reducible exact HeldB.of (by assumption) (by assumption) | ((repeat (first | with_reducible refine HeldB.set ?_ (by first | exact Or.inl rfl | exact Or.inr (by simp only [zA, zC, zD, zN]; omega) | exact Or.inr (by omega)) | with_reducible refine HeldB.alloc ?_ _ | with_reducible refine HeldB.drew ?_)); (first | with_reducible assumption | with_reducible exact HeldB.refl hLb | with_reducible exact HeldB.of (by assumption) (by assumption) | with_reducible exact HeldB.ex (by assumption) (by assumption))))))
          clear hK K hHeld
          have hHeld := hHeldN
          clear hHeldN
          (try simp only [Act.put, List.setIfInBounds_toArray, List.set_cons_zero, List.set_cons_succ])
          refine wpAnyH_ready (rs := [3]) (by kernel_rfl) (by simp) ?_
          refine AllReadyH.cons rfl (fun K hK => ?_) AllReadyH.nil
          go_simp
          refine hK.out _ _ ?_ (fun hHeldN => ?_)
          focus ((try dsimp only); ((first | with_reducible assumption | with_reducible exact HeldB.start hLb | with_reducible exact HeldB.of (by assumption) (by assumption) | ((repeat (first | with_reducible refine HeldB.set ?_ (by first | exact Or.inl rfl | exact Or.inr (by simp only [zA, zC, zD, zN]; omega) | exact Or.inr (by omega)) | with_reducible refine HeldB.alloc ?_ _ | with_reducible refine HeldB.drew ?_)); (first | with_reducible assumption | with_reducible exact HeldB.refl hLb | with_reducible exact HeldB.of (by assumption) (by assumption) | with_reducible exact HeldB.ex (by assumption) (by assumption))))))
          clear hK K hHeld
          have hHeld := hHeldN
          clear hHeldN
          (try simp only [Act.put, List.setIfInBounds_toArray, List.set_cons_zero, List.set_cons_succ])
          refine wpAnyH_ready (rs := [4]) (by kernel_rfl) (by simp) ?_
          refine AllReadyH.cons rfl (fun K hK => ?_) AllReadyH.nil
          (apply step_app (lo := W0.heap.size) el_G one_G rfl rfl rfl rfl; (apply Ow.keep ho; (exact kf_)); (refine Rs.new [gv0 ((Sw.hedOf []).getD Sw.headZ)] (by (first | rfl | (simp only [zA, zC, zD, zN]; done) | omega)) rfl rfl (fun _ => rfl) (by omega)); omega; exact sz_; intro A1 c1 w2 ho1 hch1 hat1 hex1 hlow1)
          have hbx := hex1 (· = g1) W0 (HeldB.ch (by assumption : HeldB g1 10 W0 _)) (Nat.le_refl _)
          have hlbx := Lb.low hlow1 hgW (HeldB.lb (by assumption : HeldB g1 10 W0 _))
          have hX8 := low_keep (wr := wr) hch1 hlow1 (by (exact kf_)) hgW hgl
          have hz1 := hch1.size
          (try simp only [zA, zC, zD, zN] at hz1)
          obtain ⟨hcL, hfL⟩ := low_rules hlow1
          clear hex1 hlow1
          (try simp only [Act.put, List.setIfInBounds_toArray, List.set_cons_zero, List.set_cons_succ])
          refine hK.out _ _ ?_ (fun hHeldN => ?_)
          focus ((try dsimp only); ((first | with_reducible assumption | with_reducible exact HeldB.start hLb | with_reducible exact HeldB.of (by assumption) (by assumption) | ((repeat (first | with_reducible refine HeldB.set ?_ (by first | exact Or.inl rfl | exact Or.inr (by simp only [zA, zC, zD, zN]; omega) | exact Or.inr (by omega)) | with_reducible refine HeldB.alloc ?_ _ | with_reducible refine HeldB.drew ?_)); (first | with_reducible assumption | with_reducible exact HeldB.refl hLb | with_reducible exact HeldB.of (by assumption) (by assumption) | with_reducible exact HeldB.ex (by assumption) (by assumption))))))
          clear hK K hHeld
          have hHeld := hHeldN
          clear hHeldN
          (try simp only [Act.put, List.setIfInBounds_toArray, List.set_cons_zero, List.set_cons_succ])
          refine regT 5 23 (v := ?_) rfl rfl (by kernel_rfl) (by kernel_rfl) (by kernel_rfl) (fun _ _ _ h => h) (by rfl) ?_ (by assumption) ?_
          rotate_left
          focus (intro w hSw; (try dsimp only at hSw); go_simp; (try with_reducible rfl))
          (try simp only [Act.put, List.setIfInBounds_toArray, List.set_cons_zero, List.set_cons_succ])
          refine wpAnyH_ready (rs := [6]) (by kernel_rfl) (by simp) ?_
          refine AllReadyH.cons rfl (fun K hK => ?_) AllReadyH.nil
          have hLbx := HeldB.lb hHeld
          obtain ⟨hcx, hfx⟩ := Lb.rules hLbx
          go_simp
          refine hK.out _ _ ?_ (fun hHx => ?_)
          focus ((try dsimp only); ((first | with_reducible assumption | with_reducible exact HeldB.start hLb | with_reducible exact HeldB.of (by assumption) (by assumption) | ((repeat (first | with_reducible refine HeldB.set ?_ (by first | exact Or.inl rfl | exact Or.inr (by simp only [zA, zC, zD, zN]; omega) | exact Or.inr (by omega)) | with_reducible refine HeldB.alloc ?_ _ | with_reducible refine HeldB.drew ?_)); (first | with_reducible assumption | with_reducible exact HeldB.refl hLb | with_reducible exact HeldB.of (by assumption) (by assumption) | with_reducible exact HeldB.ex (by assumption) (by assumption))))))
          clear hK K hHeld
          (try simp only [Act.put, List.setIfInBounds_toArray, List.set_cons_zero, List.set_cons_succ])
          refine wpAnyH_done (by kernel_rfl) ?_ _
          go_wp2_with fail
          go_roundw
          case rel =>
            refine ⟨k + 1, A1, c1, by omega, by go_num, hHx, World.cell?_setCell_same _ _ _ (hcx 8 (by decide)), ?_, ?_⟩
            · rw [List.replicate_succ']; exact Ow.keep ho1 (by (exact kf_))
            · intro j hj; rw [World.cell?_setCell_other _ _ _ _ (by intro e; exact hj (by injection e with _ e; exact e.symm))]; exact (hX8 j).trans (Hr.out j hj)
          case measure => simp [intOf]; omega
        refine AllReadyH.cons rfl (fun K hK => ?_) AllReadyH.nil
        go_simp
        (go_at_call 36; refine (iGatNew_c _).mono ?_; rintro E w1 ⟨rfl, hb⟩; have hst := xr hb; (try simp only [zA, zC, zD, zN] at hst); obtain ⟨hc, hf, hz⟩ := hst)
        (try go_wp2_with fail)
        refine hK.out _ _ ?_ (fun hHeldN => ?_)
        focus ((try dsimp only); ((first | with_reducible assumption | with_reducible exact HeldB.start hLb | with_reducible exact HeldB.of (by assumption) (by assumption) | ((repeat (first | with_reducible refine HeldB.set ?_ (by first | exact Or.inl rfl | exact Or.inr (by simp only [zA, zC, zD, zN]; omega) | exact Or.inr (by omega)) | with_reducible refine HeldB.alloc ?_ _ | with_reducible refine HeldB.drew ?_)); (first | with_reducible assumption | with_reducible exact HeldB.refl hLb | with_reducible exact HeldB.of (by assumption) (by assumption) | with_reducible exact HeldB.ex (by assumption) (by assumption))))))
        clear hK K hHeld
        have hHeld := hHeldN
        clear hHeldN
        (try simp only [Act.put, List.setIfInBounds_toArray, List.set_cons_zero, List.set_cons_succ])
        refine wpAnyH_ready (rs := [1, 3]) (by kernel_rfl) (by simp) ?_
        refine AllReadyH.cons rfl (fun K hK => ?_) ?_
        · replace hHeld := Lib.hid hHeld
          replace hB := Lib.hid hB
          go_simp
          replace hHeld := hHeld.out
          replace hB := hB.out
          refine hK.out _ _ ?_ (fun hHeldN => ?_)
          focus ((try dsimp only); ((first | with_reducible assumption | with_reducible exact HeldB.start hLb | with_reducible exact HeldB.of (by assumption) (by assumption) | ((repeat (first | with_reducible refine HeldB.set ?_ (by first | exact Or.inl rfl | exact Or.inr (by simp only [zA, zC, zD, zN]; omega) | exact Or.inr (by omega)) | with_reducible refine HeldB.alloc ?_ _ | with_reducible refine HeldB.drew ?_)); (first | with_reducible assumption | with_reducible exact HeldB.refl hLb | with_reducible exact HeldB.of (by assumption) (by assumption) | with_reducible exact HeldB.ex (by assumption) (by assumption))))))
          clear hK K hHeld
          have hHeld := hHeldN
          clear hHeldN
          (try simp only [Act.put, List.setIfInBounds_toArray, List.set_cons_zero, List.set_cons_succ])
          refine wpAnyH_ready (rs := [3]) (by kernel_rfl) (by simp) ?_
          refine AllReadyH.cons rfl (fun K hK => ?_) AllReadyH.nil
          go_simp
          refine hK.out _ _ ?_ (fun hHeldN => ?_)
          focus ((try dsimp only); ((first | with_reducible assumption | with_reducible exact HeldB.start hLb | with_reducible exact HeldB.of (by assumption) (by assumption) | ((repeat (first | with_reducible refine HeldB.set ?_ (by first | exact Or.inl rfl | exact Or.inr (by simp only [zA, zC, zD, zN]; omega) | exact Or.inr (by omega)) | with_reducible refine HeldB.alloc ?_ _ | with_reducible refine HeldB.drew ?_)); (first | with_reducible assumption | with_reducible exact HeldB.refl hLb | with_reducible exact HeldB.of (by assumption) (by assumption) | with_reducible exact HeldB.ex (by assumption) (by assumption))))))
          clear hK K hHeld
          have hHeld := hHeldN
          clear hHeldN
          (try simp only [Act.put, List.setIfInBounds_toArray, List.set_cons_zero, List.set_cons_succ])
          refine wpAnyH_ready (rs := [4]) (by kernel_rfl) (by simp) ?_
          refine AllReadyH.cons rfl (fun K hK => ?_) AllReadyH.nil
          (apply step_app (lo := W0.heap.size) el_G one_G rfl rfl rfl rfl; (apply Ow.keep ho; (exact kf_)); (refine Rs.new [gv0 ((Sw.hedOf []).getD Sw.headZ)] (by (first | rfl | (simp only [zA, zC, zD, zN]; done) | omega)) rfl rfl (fun _ => rfl) (by omega)); omega; exact sz_; intro A1 c1 w2 ho1 hch1 hat1 hex1 hlow1)
          have hbx := hex1 (· = g1) W0 (HeldB.ch (by assumption : HeldB g1 10 W0 _)) (Nat.le_refl _)
          have hlbx := Lb.low hlow1 hgW (HeldB.lb (by assumption : HeldB g1 10 W0 _))
          have hX8 := low_keep (wr := wr) hch1 hlow1 (by (exact kf_)) hgW hgl
          have hz1 := hch1.size
          (try simp only [zA, zC, zD, zN] at hz1)
          obtain ⟨hcL, hfL⟩ := low_rules hlow1
          clear hex1 hlow1
          (try simp only [Act.put, List.setIfInBounds_toArray, List.set_cons_zero, List.set_cons_succ])
          refine hK.out _ _ ?_ (fun hHeldN => ?_)
          focus ((try dsimp only); ((first | with_reducible assumption | with_reducible exact HeldB.start hLb | with_reducible exact HeldB.of (by assumption) (by assumption) | ((repeat (first | with_reducible refine HeldB.set ?_ (by first | exact Or.inl rfl | exact Or.inr (by simp only [zA, zC, zD, zN]; omega) | exact Or.inr (by omega)) | with_reducible refine HeldB.alloc ?_ _ | with_reducible refine HeldB.drew ?_)); (first | with_reducible assumption | with_reducible exact HeldB.refl hLb | with_reducible exact HeldB.of (by assumption) (by assumption) | with_reducible exact HeldB.ex (by assumption) (by assumption))))))
          clear hK K hHeld
          have hHeld := hHeldN
          clear hHeldN
          (try simp only [Act.put, List.setIfInBounds_toArray, List.set_cons_zero, List.set_cons_succ])
          refine regT 5 23 (v := ?_) rfl rfl (by kernel_rfl) (by kernel_rfl) (by kernel_rfl) (fun _ _ _ h => h) (by rfl) ?_ (by assumption) ?_
          rotate_left
          focus (intro w hSw; (try dsimp only at hSw); go_simp; (try with_reducible rfl))
          (try simp only [Act.put, List.setIfInBounds_toArray, List.set_cons_zero, List.set_cons_succ])
          refine wpAnyH_ready (rs := [6]) (by kernel_rfl) (by simp) ?_
          refine AllReadyH.cons rfl (fun K hK => ?_) AllReadyH.nil
          have hLbx := HeldB.lb hHeld
          obtain ⟨hcx, hfx⟩ := Lb.rules hLbx
          go_simp
          refine hK.out _ _ ?_ (fun hHx => ?_)
          focus ((try dsimp only); ((first | with_reducible assumption | with_reducible exact HeldB.start hLb | with_reducible exact HeldB.of (by assumption) (by assumption) | ((repeat (first | with_reducible refine HeldB.set ?_ (by first | exact Or.inl rfl | exact Or.inr (by simp only [zA, zC, zD, zN]; omega) | exact Or.inr (by omega)) | with_reducible refine HeldB.alloc ?_ _ | with_reducible refine HeldB.drew ?_)); (first | with_reducible assumption | with_reducible exact HeldB.refl hLb | with_reducible exact HeldB.of (by assumption) (by assumption) | with_reducible exact HeldB.ex (by assumption) (by assumption))))))
          clear hK K hHeld
          (try simp only [Act.put, List.setIfInBounds_toArray, List.set_cons_zero, List.set_cons_succ])
          refine wpAnyH_done (by kernel_rfl) ?_ _
          go_wp2_with fail
          go_roundw
          case rel =>
            refine ⟨k + 1, A1, c1, by omega, by go_num, hHx, World.cell?_setCell_same _ _ _ (hcx 8 (by decide)), ?_, ?_⟩
            · rw [List.replicate_succ']; exact Ow.keep ho1 (by (exact kf_))
            · intro j hj; rw [World.cell?_setCell_other _ _ _ _ (by intro e; exact hj (by injection e with _ e; exact e.symm))]; exact (hX8 j).trans (Hr.out j hj)
          case measure => simp [intOf]; omega
        refine AllReadyH.cons rfl (fun K hK => ?_) AllReadyH.nil
        go_simp
        refine hK.out _ _ ?_ (fun hHeldN => ?_)
        focus ((try dsimp only); ((first | with_reducible assumption | with_reducible exact HeldB.start hLb | with_reducible exact HeldB.of (by assumption) (by assumption) | ((repeat (first | with_reducible refine HeldB.set ?_ (by first | exact Or.inl rfl | exact Or.inr (by simp only [zA, zC, zD, zN]; omega) | exact Or.inr (by omega)) | with_reducible refine HeldB.alloc ?_ _ | with_reducible refine HeldB.drew ?_)); (first | with_reducible assumption | with_reducible exact HeldB.refl hLb | with_reducible exact HeldB.of (by assumption) (by assumption) | with_reducible exact HeldB.ex (by assumption) (by assumption))))))
        clear hK K hHeld
        have hHeld := hHeldN
        clear hHeldN
        (try simp only [Act.put, List.setIfInBounds_toArray, List.set_cons_zero, List.set_cons_succ])
        refine wpAnyH_ready (rs := [1]) (by kernel_rfl) (by simp) ?_
        refine AllReadyH.cons rfl (fun K hK => ?_) AllReadyH.nil
        replace hHeld := Lib.hid hHeld
        replace hB := Lib.hid hB
        go_simp
        replace hHeld := hHeld.out
        replace hB := hB.out
        refine hK.out _ _ ?_ (fun hHeldN => ?_)
        focus ((try dsimp only); ((first | with_reducible assumption | with_reducible exact HeldB.start hLb | with_reducible exact HeldB.of (by assumption) (by assumption) | ((repeat (first | with_reducible refine HeldB.set ?_ (by first | exact Or.inl rfl | exact Or.inr (by simp only [zA, zC, zD, zN]; omega) | exact Or.inr (by omega)) | with_reducible refine HeldB.alloc ?_ _ | with_reducible refine HeldB.drew ?_)); (first | with_reducible assumption | with_reducible exact HeldB.refl hLb | with_reducible exact HeldB.of (by assumption) (by assumption) | with_reducible exact HeldB.ex (by assumption) (by assumption))))))
        clear hK K hHeld
        have hHeld := hHeldN
        clear hHeldN
        (try simp only [Act.put, List.setIfInBounds_toArray, List.set_cons_zero, List.set_cons_succ])
        refine wpAnyH_ready (rs := [4]) (by kernel_rfl) (by simp) ?_
        refine AllReadyH.cons rfl (fun K hK => ?_) AllReadyH.nil
        (apply step_app (lo := W0.heap.size) el_G one_G rfl rfl rfl rfl; (apply Ow.keep ho; (exact kf_)); (refine Rs.new [gv0 ((Sw.hedOf []).getD Sw.headZ)] (by (first | rfl | (simp only [zA, zC, zD, zN]; done) | omega)) rfl rfl (fun _ => rfl) (by omega)); omega; exact sz_; intro A1 c1 w2 ho1 hch1 hat1 hex1 hlow1)
        have hbx := hex1 (· = g1) W0 (HeldB.ch (by assumption : HeldB g1 10 W0 _)) (Nat.le_refl _)
        have hlbx := Lb.low hlow1 hgW (HeldB.lb (by assumption : HeldB g1 10 W0 _))
        have hX8 := low_keep (wr := wr) hch1 hlow1 (by (exact kf_)) hgW hgl
        have hz1 := hch1.size
        (try simp only [zA, zC, zD, zN] at hz1)
        obtain ⟨hcL, hfL⟩ := low_rules hlow1
        clear hex1 hlow1
        (try simp only [Act.put, List.setIfInBounds_toArray, List.set_cons_zero, List.set_cons_succ])
        refine hK.out _ _ ?_ (fun hHeldN => ?_)
        focus ((try dsimp only); ((first | with_reducible assumption | with_reducible exact HeldB.start hLb | with_reducible exact HeldB.of (by assumption) (by assumption) | ((repeat (first | with_reducible refine HeldB.set ?_ (by first | exact Or.inl rfl | exact Or.inr (by simp only [zA, zC, zD, zN]; omega) | exact Or.inr (by omega)) | with_reducible refine HeldB.alloc ?_ _ | with_reducible refine HeldB.drew ?_)); (first | with_reducible assumption | with_reducible exact HeldB.refl hLb | with_reducible exact HeldB.of (by assumption) (by assumption) | with_reducible exact HeldB.ex (by assumption) (by assumption))))))
        clear hK K hHeld
        have hHeld := hHeldN
        clear hHeldN
        (try simp only [Act.put, List.setIfInBounds_toArray, List.set_cons_zero, List.set_cons_succ])
        refine regT 5 23 (v := ?_) rfl rfl (by kernel_rfl) (by kernel_rfl) (by kernel_rfl) (fun _ _ _ h => h) (by rfl) ?_ (by assumption) ?_
        rotate_left
        focus (intro w hSw; (try dsimp only at hSw); go_simp; (try with_reducible rfl))
        (try simp only [Act.put, List.setIfInBounds_toArray, List.set_cons_zero, List.set_cons_succ])
        refine wpAnyH_ready (rs := [6]) (by kernel_rfl) (by simp) ?_
        refine AllReadyH.cons rfl (fun K hK => ?_) AllReadyH.nil
        have hLbx := HeldB.lb hHeld
        obtain ⟨hcx, hfx⟩ := Lb.rules hLbx
        go_simp
        refine hK.out _ _ ?_ (fun hHx => ?_)
        focus ((try dsimp only); ((first | with_reducible assumption | with_reducible exact HeldB.start hLb | with_reducible exact HeldB.of (by assumption) (by assumption) | ((repeat (first | with_reducible refine HeldB.set ?_ (by first | exact Or.inl rfl | exact Or.inr (by simp only [zA, zC, zD, zN]; omega) | exact Or.inr (by omega)) | with_reducible refine HeldB.alloc ?_ _ | with_reducible refine HeldB.drew ?_)); (first | with_reducible assumption | with_reducible exact HeldB.refl hLb | with_reducible exact HeldB.of (by assumption) (by assumption) | with_reducible exact HeldB.ex (by assumption) (by assumption))))))
        clear hK K hHeld
        (try simp only [Act.put, List.setIfInBounds_toArray, List.set_cons_zero, List.set_cons_succ])
        refine wpAnyH_done (by kernel_rfl) ?_ _
        go_wp2_with fail
        go_roundw
        case rel =>
          refine ⟨k + 1, A1, c1, by omega, by go_num, hHx, World.cell?_setCell_same _ _ _ (hcx 8 (by decide)), ?_, ?_⟩
          · rw [List.replicate_succ']; exact Ow.keep ho1 (by (exact kf_))
          · intro j hj; rw [World.cell?_setCell_other _ _ _ _ (by intro e; exact hj (by injection e with _ e; exact e.symm))]; exact (hX8 j).trans (Hr.out j hj)
        case measure => simp [intOf]; omega
      · obtain rfl : k = 2 := by omega
        have p0 := (hrest 0 (by decide)).trans q0
        have p1 := (hrest 1 (by decide)).trans q1
        have p2 := (hrest 2 (by decide)).trans q2
        have p3 := (hrest 3 (by decide)).trans q3
        have p4 := (hrest 4 (by decide)).trans q4
        have p5 := (hrest 5 (by decide)).trans q5
        have p6 := (hrest 6 (by decide)).trans q6
        have p7 := (hrest 7 (by decide)).trans q7
        have p9 := (hrest 9 (by decide)).trans q9
        clear hrest
        have hb := hB.ch
        have hLz := hB.lb.lt
        obtain ⟨hcz, hfz⟩ := Lb.rules (Lb.chk hB.ch hLw (fun e => by omega))
        clear hB
        go_wp2_with fail
        refine bodyPost_ret (v := .agg #[.slice A0 5 c0, .slice bL bLn bLc, .slice bP 5 bPc, .slice bD bDn bDc, .int .i64 (Sw.mktNew xs).clock, .slice bN bNn bNc, .slice bS bSn bSc, .slice none 0 0, .slice A' 2 c', .slice none 0 0]) (by simp [results, Try.results32, go_sem, *]) rfl ?_
        refine ⟨A0, c0, 5, bL, bLc, bLn, bP, bPc, 5, bD, bDc, bDn, bN, bNc, bNn, bS, bSc, bSn, A', c', 2, glue τm w1.heap.size (glue τ W0.heap.size (fun _ => 8)), by rw [He.out], ?_, ext_⟩
        rw [He.out]
        refine ⟨?_, ?_, ?_, by simp [Sw.gatNew], rfl, rfl⟩
        · have hT : glue τm w1.heap.size (glue τ W0.heap.size (fun _ => 8)) g1 = 7 := by unfold glue; rw [if_neg (by omega), if_pos hgW]; exact ht1
          have t1 := (t0.glueL (τ' := fun _ => 8) (k := W0.heap.size) (by omega)).glueR (k := w1.heap.size) (τ' := τm) (by omega)
          have hcw : Ch (· = g1) wx W0 := Ch.ex (by repeat (first | with_reducible exact Ch.refl _ _ | (with_reducible refine Ch.setCell ?_ ?_ _; rotate_left; (focus exact Or.inl rfl)))) hb0
          have t2 := OwT.keep t1 (KT.ch (Ch.trans hcw hb) (KT.refl _ _ _ _) (fun i hi => .inr (by rw [show i = g1 from hi, hT]; decide)))
          exact (t2.keepF (by (exact kf_))).less (by omega)
        · exact ((hoM.glueL (Nat.le_refl _)).keepF (by (exact kf_))).less (by simp)
        · exact ((OwT.fresh (τ := glue τm w1.heap.size (glue τ W0.heap.size (fun _ => 8))) (t := 8) ho (fun b h1 h2 => by unfold glue; rw [if_neg (by omega), if_neg (by omega)])).keepF (by (exact kf_))).less (by omega)
  case refine_2 =>
    rintro n l a wx ⟨hk, hHeld, hup, r0, r1, r2, u0, u1, u2, τ, hn0, rfl, rfl, C0, C1, C2⟩ he
    obtain rfl : r0 = true := by (cases r0 with | true => rfl | false => exact absurd he (ready_ne (i := 1) (by kernel_rfl)))
    obtain rfl : r2 = true := by (cases r2 with | true => rfl | false => exact absurd he (ready_ne (i := 3) (by kernel_rfl)))
    obtain rfl : r1 = true := by (cases r1 with | true => rfl | false => exact absurd he (ready_ne (i := 4) (by kernel_rfl)))
    simp [cb] at hn0
  case refine_3 =>
    rintro n l a wx ⟨hk, hHeld, hup, r0, r1, r2, u0, u1, u2, τ, hn0, rfl, rfl, C0, C1, C2⟩ i hi
    obtain ⟨hi0, oi, ho, hdep⟩ := mem_ready.1 hi
    clear hi
    have hin : i < 6 := (Array.getElem?_eq_some_iff.1 ho).1
    rcases (show i = 0 ∨ i = 1 ∨ i = 2 ∨ i = 3 ∨ i = 4 ∨ i = 5 by omega) with rfl | rfl | rfl | rfl | rfl | rfl
    · -- 0
      exact Bool.noConfusion (show true = false from hi0)
    · -- 1
      obtain rfl : r0 = false := hi0
      cases C0
      clear ho hdep
      refine wpOp_step rfl fun K hK => ?_
      replace hK := Lib.hid hK
      go_simp
      (go_at_call 86; apply Calls.mono; apply iCloneInts_c; (exact Rs.at0 hxs hk); (try omega); rintro E w2 ⟨A1, c1, rfl, ho1, hb1⟩)
      try go_wp2_with fail
      refine hK.out _ _ ⟨hHeld.ex hb1, kE hb1 hk, hHeld.ex hb1, (by have := hb1.size; omega), true, r1, r2, .slice A1 5 c1, u1, u2, glue τ wx.heap.size (fun _ => 6), ?_, rfl, rfl, .done _ _ (OwT.newT ho1 (Nat.le_refl _) hup), C1.ex hb1, (C2.chg _)⟩
      simp only [cb] at hn0 ⊢; simp at hn0 ⊢; omega
    · -- 2
      exact Bool.noConfusion (show true = false from hi0)
    · -- 3
      obtain rfl : r2 = false := hi0
      obtain rfl := Option.some.inj (show some _ = some oi from ho)
      obtain rfl : r0 = true := hdep ⟨1, .data⟩ (by simp) rfl
      clear ho hdep
      obtain ⟨A1, c1, rfl, ht⟩ : ∃ A c, u0 = .slice A 5 c ∧ OwT encI 1 3 τ 6 wx W0.heap.size A c 5 xs := by (cases C0; exact ⟨_, _, rfl, by assumption⟩)
      cases C2
      refine wpOp_step rfl fun K hK => ?_
      go_simp
      refine hK _ _ ⟨hHeld, hk, hHeld, hup, true, r1, true, (.slice A1 5 c1), u1, (fun u => .agg #[u, .slice bL bLn bLc, .slice bP 5 bPc, .slice bD bDn bDc, .int .i64 (Sw.mktNew xs).clock, .slice bN bNn bNc, .slice bS bSn bSc, .slice none 0 0, .slice none 0 0, .slice none 0 0]) (.slice A1 5 c1), τ, ?_, rfl, rfl, C0, C1, .done⟩
      simp only [cb] at hn0 ⊢; simp at hn0 ⊢; omega
    · -- 4
      obtain rfl : r1 = false := hi0
      cases C1
      clear ho hdep
      refine wpOp_step rfl fun K hK => ?_
      go_simp
      refine hK _ _ ⟨hHeld.alloc _, hk.alloc, hHeld.alloc _, (by simp; omega), r0, true, r2, u0, .pointer (some ⟨wx.heap.size, 0, none⟩), u2, glue τ wx.heap.size (fun _ => 7), ?_, rfl, rfl, C0.alloc, .done _ hup (Lb.new rfl (by kernel_rfl)) (by unfold glue; rw [if_neg (Nat.lt_irrefl _)]), C2⟩
      simp only [cb] at hn0 ⊢; simp at hn0 ⊢; omega
    · -- 5
      obtain rfl := Option.some.inj (show some _ = some oi from ho)
      obtain rfl : r1 = true := hdep ⟨4, .data⟩ (by simp) rfl
      obtain rfl : r2 = true := hdep ⟨3, .data⟩ (by simp) rfl
      obtain rfl : r0 = true := by (cases C2; rfl)
      simp [cb] at hn0
end Go.Proofs.Ytgceeggfdomdjaa

namespace Go.Proofs.Ytgceeggfdomdjaa
set_option maxRecDepth 100000
set_option linter.unusedSimpArgs false
set_option linter.unusedVariables false
open Go.RowKit Go
set_option maxHeartbeats 32000000

theorem iGatNew_v {gn : Sw.Gate} (h : gn = Sw.gatNew) (w : World) : Calls Try.prog 36 #[] w fun E w' => E = .returned (.agg #[.int .i64 gn.head.size, .int .i64 gn.head.log, .int .i64 gn.head.own, .slice none 0 0]) ∧ Ex w w' := by
  subst h
  exact iGatNew_c w
theorem swGateZ_c (p q r : Int) (A : Option Addr) (c n : Nat) (B : Option Addr) (d m : Nat) (w : World) (hxs : RI w 0 A c n []) (hys : RI w 0 B d m []) : Calls Try.prog 18 #[.agg #[.int .i64 p, .int .i64 q, .int .i64 r, .slice A n c], .agg #[.int .i64 p, .int .i64 q, .int .i64 r, .slice B m d]] w fun E w' => E = .returned (.bool true) ∧ Ex w w' := by
  refine (swGate_c ⟨p, q, r⟩ A c n [] ⟨p, q, r⟩ B d m [] w hxs hys).mono ?_
  rintro E w' ⟨rfl, hb⟩
  exact ⟨by simp, hb⟩
theorem gatNew_pair {l : List Sw.Gate} {gn u : Sw.Gate} {k : Nat} (h : l = [gn, gn]) (hk : l[k]? = some u) : u = gn := by
  subst h
  rcases k with _ | _ | k
  · simpa using hk.symm
  · simpa using hk.symm
  · simp at hk
theorem fnWldNew_c (A : Option Addr) (c n : Nat) (bs : List Int) (w : World) (hxs : RB w 0 A c n bs) (hq : ∀ x ∈ bs, 0 ≤ x ∧ x ≤ 255) : Calls Try.prog 5 #[.slice A n c] w fun E w' => E = .returned (.bool true) ∧ Ex w w' := by
  have hbig := Rs.big hxs
  by_cases hn : n ≤ 1048576
  case neg =>
    go_enter Try.func5, Try.ntmps5
    go_wp2_with fail
    go_ret
    exact ⟨rfl, ext_⟩
  go_enter Try.func5, Try.ntmps5
  go_wp2_with fail
  apply Calls.mono
  apply drawWldNew_c
  · apply Rs.at0 hxs; (exact kf_)
  · exact hq
  rintro E w1 ⟨B, d, m, xs, rfl, hp, hm, hb⟩
  have hst := xr hb; (try simp only [zA, zC, zD, zN] at hst); obtain ⟨hc, hf, hz⟩ := hst
  go_wp2_with fail
  apply Calls.mono
  apply iWldNew_c
  · apply Rs.at0 hp; (exact kf_)
  rintro E w2 ⟨iF, iFc, iFn, eL, eLc, eLn, eP, ePc, ePn, eD, eDc, eDn, eN, eNc, eNn, eS, eSc, eSn, iG, iGc, iGn, τe, rfl, hoe, hb⟩
  have hst := xr hb; (try simp only [zA, zC, zD, zN] at hst); obtain ⟨hc, hf, hz⟩ := hst
  go_wp2_with fail
  (focus (refine wp_name ?_; intro W0 hb0; have hst := xr hb0; (try simp only [zA, zC, zD, zN] at hst); obtain ⟨hc0, hf0, hz0⟩ := hst; refine wp_regionX [] (S := fun w' => Held W0 w') hdH (fun hHeld => ?_); refine GoesX.take 0 13 [] hHeld (h := ?_); refine GoesX.take 1 14 [] hHeld (h := ?_); refine GoesX.one 2 (h := fun K hK => ?_); go_simp; (first | (go_at_call 34; apply Calls.mono; apply sWldNew_c; (apply Rs.at0 hp; (exact kf_)); rintro E ws ⟨sF, sFc, sFn, cL, cLc, cLn, cP, cPc, cPn, cD, cDc, cDn, cN, cNc, cNn, cS, cSc, cSn, sG, sGc, sGn, τs, rfl, hos, hb⟩; have hst := xr hb; (try simp only [zA, zC, zD, zN] at hst); obtain ⟨hc, hf, hz⟩ := hst) | (go_at_call 33; apply Calls.mono; apply (swWorld_c (x := Sw.wldNew xs) (y := Sw.wldNew xs)); (apply RW.at0 hoe.rw_; (exact kf_)); (apply RW.at0 hos.rw_; (exact kf_)); rintro E wg ⟨rfl, hb⟩; rw [show decide (Sw.wldNew xs = Sw.wldNew xs) = true from decide_eq_true rfl]; have hst := xr hb; (try simp only [zA, zC, zD, zN] at hst); obtain ⟨hc, hf, hz⟩ := hst)); (try go_wp2_with fail); refine outS hK hdH (h := fun hH2 => ?_); clear hK K hHeld; have hHeld := hH2; clear hH2; refine GoesX.one 3 (h := fun K hK => ?_); go_simp; (first | (go_at_call 34; apply Calls.mono; apply sWldNew_c; (apply Rs.at0 hp; (exact kf_)); rintro E ws ⟨sF, sFc, sFn, cL, cLc, cLn, cP, cPc, cPn, cD, cDc, cDn, cN, cNc, cNn, cS, cSc, cSn, sG, sGc, sGn, τs, rfl, hos, hb⟩; have hst := xr hb; (try simp only [zA, zC, zD, zN] at hst); obtain ⟨hc, hf, hz⟩ := hst) | (go_at_call 33; apply Calls.mono; apply (swWorld_c (x := Sw.wldNew xs) (y := Sw.wldNew xs)); (apply RW.at0 hoe.rw_; (exact kf_)); (apply RW.at0 hos.rw_; (exact kf_)); rintro E wg ⟨rfl, hb⟩; rw [show decide (Sw.wldNew xs = Sw.wldNew xs) = true from decide_eq_true rfl]; have hst := xr hb; (try simp only [zA, zC, zD, zN] at hst); obtain ⟨hc, hf, hz⟩ := hst)); (try go_wp2_with fail); refine outS hK hdH (h := fun hH2 => ?_); clear hK K hHeld; have hHeld := hH2; clear hH2; refine GoesX.take 4 17 [] hHeld (h := ?_); refine GoesX.done (by kernel_rfl) ?_ _; all_goals (have hb := And.right (by assumption : Held W0 _); have hst := xr hb; (try simp only [zA, zC, zD, zN] at hst); obtain ⟨hc, hf, hz⟩ := hst)))
  have hiF : iFn = (Sw.wldNew xs).first.length := hoe.first.ow.1
  have hiG : iGn = (Sw.wldNew xs).gates.length := by have := hoe.gates.ow.1; rwa [List.length_map] at this
  cases gv : Sw.newOk xs
  case false =>
    have ok : Sw.wldOk (Sw.wldNew xs) = false := by rw [Sw.wldNew_n gv]; decide
    obtain rfl : iFn = 0 := by rw [hiF, Sw.wldNew_n gv]; rfl
    clear hiF hiG
    go_wp2_with (first | (go_at_call 21; refine (swOk_c _).mono ?_; rintro E w' ⟨rfl, rfl⟩) | (go_at_call 35; apply Calls.mono; apply (iWldOk_c (x := Sw.wldNew xs)); (apply RW.at0 hoe.rw_; (exact kf_)); rintro E wh ⟨rfl, hb⟩; rw [ok]; have hst := xr hb; (try simp only [zA, zC, zD, zN] at hst); obtain ⟨hc, hf, hz⟩ := hst))
    go_ret
    exact ⟨rfl, ext_⟩
  have ok := Lib.hid (Sw.wldOk_new gv)
  have hmon := Lib.hid (Sw.wldMoney_new gv)
  obtain ⟨gn, hgn⟩ : ∃ gn, gn = Sw.gatNew := ⟨_, rfl⟩
  have hgs : (Sw.wldNew xs).gates = [gn, gn] := by rw [hgn, Sw.wldNew_y gv]
  have h5 : iFn = 5 := by rw [hiF, Sw.wldNew_y gv]; exact monOk_len (Bool.and_eq_true_iff.1 gv).1
  have h2 : iGn = 2 := by rw [hiG, hgs]; rfl
  have hmk : (Sw.wldNew xs).market = Sw.mktNew xs := by rw [Sw.wldNew_y gv, Sw.mktNew_y gv]
  have HM := Lib.hid hmk
  have hsz0 : gn.head.size = 0 := by rw [hgn]; decide
  have hdone : gn.done = [] := by rw [hgn]; rfl
  have HD := Lib.hid hdone
  clear hdone
  have hdn : gn.done.length = 0 := by rw [hgn]; rfl
  have HG := Lib.hid hgs
  have HGN := Lib.hid hgn
  clear hgn
  subst h5 h2
  clear hiF hiG hgs hmk
  go_wp2_with fail
  go_loopw [5] (fun i wr => ∃ k : Nat, k ≤ 2 ∧ i = .int .i64 k ∧ Ex wg wr) (fun i _ => 2 - (intOf i).toNat)
  case atStart => exact ⟨0, by omega, rfl, Ch.refl _ _⟩
  case round =>
    obtain ⟨k, hk, rfl, hb3⟩ := hrel
    have hst := xr hb3
    (try simp only [zA, zC, zD, zN] at hst)
    obtain ⟨hc3, hf3, hz3⟩ := hst
    by_cases hlt : k < 2
    · obtain ⟨g, off, u, B1, d1, m1, rfl, hg0, hg, hd, hy, q0, q1, q2, q3, hr⟩ := at_G hoe.rw_.gates hlt
      have hu := gatNew_pair HG.out hy
      subst hu
      rw [HD.out] at hr
      clear hd hy
      have t1 : (0 : Int) ≤ (k : Int) := by omega
      have t2 : (k : Int) < ((2 : Nat) : Int) := by omega
      go_wp2_with fail
      (focus (refine wp_name ?_; intro W0 hb0; have hst := xr hb0; (try simp only [zA, zC, zD, zN] at hst); obtain ⟨hc0, hf0, hz0⟩ := hst; refine wp_regionX [] (S := fun w' => Held W0 w') hdH (fun hHeld => ?_); refine GoesX.take 0 35 [] hHeld (h := ?_); refine GoesX.take 1 36 [] hHeld (h := ?_); refine GoesX.take 2 37 [] hHeld (h := ?_); refine GoesX.take 3 38 [] hHeld (h := ?_); refine GoesX.take 4 39 [] hHeld (h := ?_); refine GoesX.one 5 (h := fun K hK => ?_); go_simp; (first | (go_at_call 36; apply Calls.mono; apply (iGatNew_v HGN.out); rintro E w3 ⟨rfl, hb⟩; have hst := xr hb; (try simp only [zA, zC, zD, zN] at hst); obtain ⟨hc, hf, hz⟩ := hst) | (go_at_call 18; apply Calls.mono; apply swGateZ_c; (apply Rs.at0 hr; (exact kf_)); (exact ⟨rfl, Rd.none_ _ _ _⟩); rintro E w4 ⟨rfl, hb⟩; have hst := xr hb; (try simp only [zA, zC, zD, zN] at hst); obtain ⟨hc, hf, hz⟩ := hst)); (try go_wp2_with fail); refine outS hK hdH (h := fun hH2 => ?_); clear hK K hHeld; have hHeld := hH2; clear hH2; refine GoesX.one 6 (h := fun K hK => ?_); go_simp; (first | (go_at_call 36; apply Calls.mono; apply (iGatNew_v HGN.out); rintro E w3 ⟨rfl, hb⟩; have hst := xr hb; (try simp only [zA, zC, zD, zN] at hst); obtain ⟨hc, hf, hz⟩ := hst) | (go_at_call 18; apply Calls.mono; apply swGateZ_c; (apply Rs.at0 hr; (exact kf_)); (exact ⟨rfl, Rd.none_ _ _ _⟩); rintro E w4 ⟨rfl, hb⟩; have hst := xr hb; (try simp only [zA, zC, zD, zN] at hst); obtain ⟨hc, hf, hz⟩ := hst)); (try go_wp2_with fail); refine outS hK hdH (h := fun hH2 => ?_); clear hK K hHeld; have hHeld := hH2; clear hH2; refine GoesX.take 7 42 [] hHeld (h := ?_); refine GoesX.take 8 43 [] hHeld (h := ?_); (first | refine GoesX.take 9 44 [] hHeld (h := ?_) | refine GoesX.skip 9 44 [] hHeld (h := ?_)); (first | refine GoesX.take 10 45 [] hHeld (h := ?_) | refine GoesX.skip 10 45 [] hHeld (h := ?_)); (first | refine GoesX.take 11 46 [] hHeld (h := ?_) | refine GoesX.skip 11 46 [] hHeld (h := ?_)); (first | refine GoesX.take 12 47 [] hHeld (h := ?_) | refine GoesX.skip 12 47 [] hHeld (h := ?_)); (first | refine GoesX.take 13 48 [] hHeld (h := ?_) | refine GoesX.skip 13 48 [] hHeld (h := ?_)); (first | refine GoesX.take 14 49 [] hHeld (h := ?_) | refine GoesX.skip 14 49 [] hHeld (h := ?_)); (first | refine GoesX.take 15 50 [] hHeld (h := ?_) | refine GoesX.skip 15 50 [] hHeld (h := ?_)); (first | refine GoesX.take 16 51 [] hHeld (h := ?_) | refine GoesX.skip 16 51 [] hHeld (h := ?_)); refine GoesX.take 17 52 [] hHeld (h := ?_); refine GoesX.done (by kernel_rfl) ?_ _; all_goals (have hb := And.right (by assumption : Held W0 _); have hst := xr hb; (try simp only [zA, zC, zD, zN] at hst); obtain ⟨hc, hf, hz⟩ := hst)))
      all_goals go_wp2
      all_goals go_roundw
      case rel => exact ⟨k + 1, by omega, by go_num, ext_⟩
      case measure => simp [intOf]; omega
    · have hw0 : IntKind.i64.wrap 0 = 0 := IntWalk.i64_in _ (by omega)
      go_wp2_with fail
      (focus (refine wp_name ?_; intro W0 hb0; have hst := xr hb0; (try simp only [zA, zC, zD, zN] at hst); obtain ⟨hc0, hf0, hz0⟩ := hst; refine wp_regionX [] (S := fun w' => Held W0 w') hdH (fun hHeld => ?_); refine GoesX.take 0 53 [] hHeld (h := ?_); refine GoesX.one 1 (h := fun K hK => ?_); go_simp; (first | (go_at_call 35; apply Calls.mono; apply (iWldOk_c (x := Sw.wldNew xs)); (apply RW.at0 hoe.rw_; (exact kf_)); rintro E wh ⟨rfl, hb⟩; rw [ok.out]; have hst := xr hb; (try simp only [zA, zC, zD, zN] at hst); obtain ⟨hc, hf, hz⟩ := hst) | (go_at_call 38; apply Calls.mono; apply (iMktNew_c (xs := xs)); (apply Rs.at0 hp; (exact kf_)); rintro E wi ⟨iL, iLc, iLn, iP, iPc, iPn, iD, iDc, iDn, iN, iNc, iNn, iS, iSc, iSn, τi, rfl, hoi, hb⟩; have hst := xr hb; (try simp only [zA, zC, zD, zN] at hst); obtain ⟨hc, hf, hz⟩ := hst) | (go_at_call 37; apply Calls.mono; apply (swMarket_c (x := (Sw.wldNew xs).market) (y := Sw.mktNew xs)); (apply OwM.rm0 hoe.mkt; (exact kf_)); (apply OwM.rm0 hoi; (exact kf_)); rintro E wj ⟨rfl, hb⟩; rw [show decide ((Sw.wldNew xs).market = Sw.mktNew xs) = true from decide_eq_true HM.out]; have hst := xr hb; (try simp only [zA, zC, zD, zN] at hst); obtain ⟨hc, hf, hz⟩ := hst) | (go_at_call 39; apply Calls.mono; apply (iWldMoney_c (x := Sw.wldNew xs)); (apply RW.at0 hoe.rw_; (exact kf_)); rintro E wm ⟨rfl, hb⟩; rw [hmon.out]; have hst := xr hb; (try simp only [zA, zC, zD, zN] at hst); obtain ⟨hc, hf, hz⟩ := hst) | (go_at_call 40; apply Calls.mono; apply (iMonSum_c (xs := xs)); (apply Rs.at0 hp; (exact kf_)); rintro E wn ⟨rfl, rfl⟩)); (try go_wp2_with fail); refine outS hK hdH (h := fun hH2 => ?_); clear hK K hHeld; have hHeld := hH2; clear hH2; refine GoesX.take 2 55 [] hHeld (h := ?_); (first | refine GoesX.take 3 56 [] hHeld (h := ?_) | refine GoesX.skip 3 56 [] hHeld (h := ?_)); (first | refine GoesX.take 4 57 [] hHeld (h := ?_) | refine GoesX.skip 4 57 [] hHeld (h := ?_)); (first | refine GoesX.take 5 58 [] hHeld (h := ?_) | refine GoesX.skip 5 58 [] hHeld (h := ?_)); refine GoesX.one 6 (h := fun K hK => ?_); go_simp; (first | (go_at_call 35; apply Calls.mono; apply (iWldOk_c (x := Sw.wldNew xs)); (apply RW.at0 hoe.rw_; (exact kf_)); rintro E wh ⟨rfl, hb⟩; rw [ok.out]; have hst := xr hb; (try simp only [zA, zC, zD, zN] at hst); obtain ⟨hc, hf, hz⟩ := hst) | (go_at_call 38; apply Calls.mono; apply (iMktNew_c (xs := xs)); (apply Rs.at0 hp; (exact kf_)); rintro E wi ⟨iL, iLc, iLn, iP, iPc, iPn, iD, iDc, iDn, iN, iNc, iNn, iS, iSc, iSn, τi, rfl, hoi, hb⟩; have hst := xr hb; (try simp only [zA, zC, zD, zN] at hst); obtain ⟨hc, hf, hz⟩ := hst) | (go_at_call 37; apply Calls.mono; apply (swMarket_c (x := (Sw.wldNew xs).market) (y := Sw.mktNew xs)); (apply OwM.rm0 hoe.mkt; (exact kf_)); (apply OwM.rm0 hoi; (exact kf_)); rintro E wj ⟨rfl, hb⟩; rw [show decide ((Sw.wldNew xs).market = Sw.mktNew xs) = true from decide_eq_true HM.out]; have hst := xr hb; (try simp only [zA, zC, zD, zN] at hst); obtain ⟨hc, hf, hz⟩ := hst) | (go_at_call 39; apply Calls.mono; apply (iWldMoney_c (x := Sw.wldNew xs)); (apply RW.at0 hoe.rw_; (exact kf_)); rintro E wm ⟨rfl, hb⟩; rw [hmon.out]; have hst := xr hb; (try simp only [zA, zC, zD, zN] at hst); obtain ⟨hc, hf, hz⟩ := hst) | (go_at_call 40; apply Calls.mono; apply (iMonSum_c (xs := xs)); (apply Rs.at0 hp; (exact kf_)); rintro E wn ⟨rfl, rfl⟩)); (try go_wp2_with fail); refine outS hK hdH (h := fun hH2 => ?_); clear hK K hHeld; have hHeld := hH2; clear hH2; refine GoesX.one 7 (h := fun K hK => ?_); go_simp; (first | (go_at_call 35; apply Calls.mono; apply (iWldOk_c (x := Sw.wldNew xs)); (apply RW.at0 hoe.rw_; (exact kf_)); rintro E wh ⟨rfl, hb⟩; rw [ok.out]; have hst := xr hb; (try simp only [zA, zC, zD, zN] at hst); obtain ⟨hc, hf, hz⟩ := hst) | (go_at_call 38; apply Calls.mono; apply (iMktNew_c (xs := xs)); (apply Rs.at0 hp; (exact kf_)); rintro E wi ⟨iL, iLc, iLn, iP, iPc, iPn, iD, iDc, iDn, iN, iNc, iNn, iS, iSc, iSn, τi, rfl, hoi, hb⟩; have hst := xr hb; (try simp only [zA, zC, zD, zN] at hst); obtain ⟨hc, hf, hz⟩ := hst) | (go_at_call 37; apply Calls.mono; apply (swMarket_c (x := (Sw.wldNew xs).market) (y := Sw.mktNew xs)); (apply OwM.rm0 hoe.mkt; (exact kf_)); (apply OwM.rm0 hoi; (exact kf_)); rintro E wj ⟨rfl, hb⟩; rw [show decide ((Sw.wldNew xs).market = Sw.mktNew xs) = true from decide_eq_true HM.out]; have hst := xr hb; (try simp only [zA, zC, zD, zN] at hst); obtain ⟨hc, hf, hz⟩ := hst) | (go_at_call 39; apply Calls.mono; apply (iWldMoney_c (x := Sw.wldNew xs)); (apply RW.at0 hoe.rw_; (exact kf_)); rintro E wm ⟨rfl, hb⟩; rw [hmon.out]; have hst := xr hb; (try simp only [zA, zC, zD, zN] at hst); obtain ⟨hc, hf, hz⟩ := hst) | (go_at_call 40; apply Calls.mono; apply (iMonSum_c (xs := xs)); (apply Rs.at0 hp; (exact kf_)); rintro E wn ⟨rfl, rfl⟩)); (try go_wp2_with fail); refine outS hK hdH (h := fun hH2 => ?_); clear hK K hHeld; have hHeld := hH2; clear hH2; refine GoesX.take 8 61 [] hHeld (h := ?_); refine GoesX.take 9 62 [] hHeld (h := ?_); (first | refine GoesX.take 10 63 [] hHeld (h := ?_) | refine GoesX.skip 10 63 [] hHeld (h := ?_)); (first | refine GoesX.take 11 64 [] hHeld (h := ?_) | refine GoesX.skip 11 64 [] hHeld (h := ?_)); (first | refine GoesX.take 12 65 [] hHeld (h := ?_) | refine GoesX.skip 12 65 [] hHeld (h := ?_)); (first | refine GoesX.take 13 66 [] hHeld (h := ?_) | refine GoesX.skip 13 66 [] hHeld (h := ?_)); (first | refine GoesX.take 14 67 [] hHeld (h := ?_) | refine GoesX.skip 14 67 [] hHeld (h := ?_)); (first | refine GoesX.take 15 68 [] hHeld (h := ?_) | refine GoesX.skip 15 68 [] hHeld (h := ?_)); (first | refine GoesX.take 16 69 [] hHeld (h := ?_) | refine GoesX.skip 16 69 [] hHeld (h := ?_)); (first | refine GoesX.take 17 70 [] hHeld (h := ?_) | refine GoesX.skip 17 70 [] hHeld (h := ?_)); refine GoesX.take 18 71 [] hHeld (h := ?_); refine GoesX.take 19 72 [] hHeld (h := ?_); (first | refine GoesX.take 20 73 [] hHeld (h := ?_) | refine GoesX.skip 20 73 [] hHeld (h := ?_)); (first | refine GoesX.take 22 75 [] hHeld (h := ?_) | refine GoesX.skip 22 75 [] hHeld (h := ?_)); refine GoesX.one 21 (h := fun K hK => ?_); go_simp; (first | (go_at_call 35; apply Calls.mono; apply (iWldOk_c (x := Sw.wldNew xs)); (apply RW.at0 hoe.rw_; (exact kf_)); rintro E wh ⟨rfl, hb⟩; rw [ok.out]; have hst := xr hb; (try simp only [zA, zC, zD, zN] at hst); obtain ⟨hc, hf, hz⟩ := hst) | (go_at_call 38; apply Calls.mono; apply (iMktNew_c (xs := xs)); (apply Rs.at0 hp; (exact kf_)); rintro E wi ⟨iL, iLc, iLn, iP, iPc, iPn, iD, iDc, iDn, iN, iNc, iNn, iS, iSc, iSn, τi, rfl, hoi, hb⟩; have hst := xr hb; (try simp only [zA, zC, zD, zN] at hst); obtain ⟨hc, hf, hz⟩ := hst) | (go_at_call 37; apply Calls.mono; apply (swMarket_c (x := (Sw.wldNew xs).market) (y := Sw.mktNew xs)); (apply OwM.rm0 hoe.mkt; (exact kf_)); (apply OwM.rm0 hoi; (exact kf_)); rintro E wj ⟨rfl, hb⟩; rw [show decide ((Sw.wldNew xs).market = Sw.mktNew xs) = true from decide_eq_true HM.out]; have hst := xr hb; (try simp only [zA, zC, zD, zN] at hst); obtain ⟨hc, hf, hz⟩ := hst) | (go_at_call 39; apply Calls.mono; apply (iWldMoney_c (x := Sw.wldNew xs)); (apply RW.at0 hoe.rw_; (exact kf_)); rintro E wm ⟨rfl, hb⟩; rw [hmon.out]; have hst := xr hb; (try simp only [zA, zC, zD, zN] at hst); obtain ⟨hc, hf, hz⟩ := hst) | (go_at_call 40; apply Calls.mono; apply (iMonSum_c (xs := xs)); (apply Rs.at0 hp; (exact kf_)); rintro E wn ⟨rfl, rfl⟩)); (try go_wp2_with fail); refine outS hK hdH (h := fun hH2 => ?_); clear hK K hHeld; have hHeld := hH2; clear hH2; refine GoesX.one 23 (h := fun K hK => ?_); go_simp; (first | (go_at_call 35; apply Calls.mono; apply (iWldOk_c (x := Sw.wldNew xs)); (apply RW.at0 hoe.rw_; (exact kf_)); rintro E wh ⟨rfl, hb⟩; rw [ok.out]; have hst := xr hb; (try simp only [zA, zC, zD, zN] at hst); obtain ⟨hc, hf, hz⟩ := hst) | (go_at_call 38; apply Calls.mono; apply (iMktNew_c (xs := xs)); (apply Rs.at0 hp; (exact kf_)); rintro E wi ⟨iL, iLc, iLn, iP, iPc, iPn, iD, iDc, iDn, iN, iNc, iNn, iS, iSc, iSn, τi, rfl, hoi, hb⟩; have hst := xr hb; (try simp only [zA, zC, zD, zN] at hst); obtain ⟨hc, hf, hz⟩ := hst) | (go_at_call 37; apply Calls.mono; apply (swMarket_c (x := (Sw.wldNew xs).market) (y := Sw.mktNew xs)); (apply OwM.rm0 hoe.mkt; (exact kf_)); (apply OwM.rm0 hoi; (exact kf_)); rintro E wj ⟨rfl, hb⟩; rw [show decide ((Sw.wldNew xs).market = Sw.mktNew xs) = true from decide_eq_true HM.out]; have hst := xr hb; (try simp only [zA, zC, zD, zN] at hst); obtain ⟨hc, hf, hz⟩ := hst) | (go_at_call 39; apply Calls.mono; apply (iWldMoney_c (x := Sw.wldNew xs)); (apply RW.at0 hoe.rw_; (exact kf_)); rintro E wm ⟨rfl, hb⟩; rw [hmon.out]; have hst := xr hb; (try simp only [zA, zC, zD, zN] at hst); obtain ⟨hc, hf, hz⟩ := hst) | (go_at_call 40; apply Calls.mono; apply (iMonSum_c (xs := xs)); (apply Rs.at0 hp; (exact kf_)); rintro E wn ⟨rfl, rfl⟩)); (try go_wp2_with fail); refine outS hK hdH (h := fun hH2 => ?_); clear hK K hHeld; have hHeld := hH2; clear hH2; (first | refine GoesX.take 24 77 [] hHeld (h := ?_) | refine GoesX.skip 24 77 [] hHeld (h := ?_)); refine GoesX.take 25 78 [] hHeld (h := ?_); refine GoesX.take 26 79 [] hHeld (h := ?_); (first | refine GoesX.take 27 80 [] hHeld (h := ?_) | refine GoesX.skip 27 80 [] hHeld (h := ?_)); (first | refine GoesX.take 28 81 [] hHeld (h := ?_) | refine GoesX.skip 28 81 [] hHeld (h := ?_)); (first | refine GoesX.take 29 82 [] hHeld (h := ?_) | refine GoesX.skip 29 82 [] hHeld (h := ?_)); (first | refine GoesX.take 30 83 [] hHeld (h := ?_) | refine GoesX.skip 30 83 [] hHeld (h := ?_)); refine GoesX.take 31 84 [] hHeld (h := ?_); refine GoesX.take 32 2 [] hHeld (h := ?_); refine GoesX.done (by kernel_rfl) ?_ _; all_goals (have hb := And.right (by assumption : Held W0 _); have hst := xr hb; (try simp only [zA, zC, zD, zN] at hst); obtain ⟨hc, hf, hz⟩ := hst)))
      all_goals go_wp2_with fail
      all_goals go_ret
      all_goals exact ⟨rfl, ext_⟩
end Go.Proofs.Ytgceeggfdomdjaa

namespace Go.Proofs.Ytgceeggfdomdjaa
set_option maxRecDepth 100000
set_option linter.unusedSimpArgs false
set_option linter.unusedVariables false
open Go.ChangeShapes Go.WideShapes Go.ChangeAt Go.RowKit Go

section
variable {H : Type} {enc : TypeId × Value → H} {P : Program}
theorem trodAll_stays (hl : laidOutB P = true) {W W' : World} {sp : Nat → Bool} (hb : Below W.heap.size W W') : ∀ {ts : List TypeId} {vs : List Value} {ds : List (DataW H)} {ps : List MemPlace},
    ts.all (fun t => P.readableRec t && decide (t < P.types.size)) = true → DataW.TrodAll enc P W 0 (fun _ => true) true ts vs ds ps → (∀ x ∈ ps, x.block < W.heap.size) → (∀ x ∈ ps, sp x.block = true) →
    DataW.TrodAll enc P W' 0 sp true ts vs ds ps
  | [], [], [], _, _, h, _, _ => h
  | t :: ts, v :: vs, d :: ds, _, hr, ⟨p, q, h1, h2, e⟩, hlt, hs => by
    simp only [List.all_cons, Bool.and_eq_true, decide_eq_true_eq] at hr
    subst e
    refine ⟨p, q, ?_, trodAll_stays hl hb hr.2 h2 (fun x hx => hlt x (List.mem_append_right _ hx)) (fun x hx => hs x (List.mem_append_right _ hx)), rfl⟩
    exact WideElems.Trod_stays hl hr.1.1 hr.1.2 h1 (fun x hx => hb.same (hlt x (List.mem_append_left _ hx))) (fun x hx => hs x (List.mem_append_left _ hx))

/-- A call that returns true and turns nothing that was there is what a law's statement asks. -/
theorem law_post {f : Func} {s : ChangeSpec} {apart fresh handsOn again : Bool} {W W' : World} {args : Array Value} {ds gs : List (DataW H)} {before : List MemPlace} {tb : TypeId}
    (hl : laidOutB P = true) (hr : f.params.toList.all (fun t => P.readableRec t && decide (t < P.types.size)) = true) (hres : f.resultTypes = #[tb]) (htb : P.underlying tb = some .bool) (hv : s.vars = [])
    (hfn : (s.fn H ds).results = [.lit (.bool true)] ∧ (s.fn H ds).args = ds ∧ (s.fn H ds).vars = [])
    (hW : DataW.Whole enc P f.params.toList s.vars apart W args.toList ds gs before) (hb : Ex W W') : s.post enc P f apart fresh handsOn again W args (.bool true) W' := by
  have hW0 := hW
  have hbl := hb.below
  have hlt : ∀ p ∈ before, p.block < W.heap.size := fun p hp => by simpa using hW.lt p hp
  obtain ⟨p, q, hA, hV, he, hz, hn⟩ := hW
  rw [hv] at hV
  obtain ⟨rfl, rfl⟩ := trodVars_none hV
  rw [List.append_nil] at he
  subst he
  obtain ⟨f1, f2, f3⟩ := hfn
  have hargs : ∀ sp : Nat → Bool, (∀ x ∈ before, sp x.block = true) → DataW.TrodAll enc P W' 0 sp true f.params.toList args.toList (s.fn H (ds ++ [])).args before := fun sp hs => by
    rw [List.append_nil, f2]
    exact trodAll_stays hl hbl hr hA hlt hs
  have hvars : ∀ sp : Nat → Bool, DataW.TrodVars enc P W' sp s.vars (s.fn H (ds ++ [])).vars [] := fun sp => by
    rw [List.append_nil, f3, hv]
    rfl
  have hresu : ∀ (b : Nat) (sp : Nat → Bool) (hd : Bool), DataW.TrodAll enc P W' b sp hd f.resultTypes.toList ((Value.bool true).resultList f.resultTypes.size) (s.fn H (ds ++ [])).results [] := fun b sp hd => by
    rw [List.append_nil, f1, hres]
    exact trodAll_cons_mk (shut_bool htb _) trodAll_mk0
  have hold : ∀ p ∈ before, (fun b => decide (b < W.heap.size)) p.block = true := fun p hp => by simpa using hlt p hp
  refine ⟨ds, [], before, [], before, [], hW0, hresu _ _ _, hargs _ hold, hvars _, World.keptBut_mono (fun p hp => ⟨hp, Or.inr (by simpa using hp)⟩) (hbl.frame _), fun _ => ?_⟩
  refine ⟨ok_one (by rw [hres]) rfl (okWide_bool_mk htb _), _, _, ([] ++ before) ++ [], ⟨[] ++ before, [], trodAll_append (hargs _ (fun _ _ => rfl)) (hresu _ _ _), hvars _, rfl, ?_, ?_⟩, ?_⟩
  · intro b off hp
    have hp' : MemPlace.cell b off ∈ before := by simpa using hp
    rw [hbl.frozen (by exact hlt _ hp')]
    exact hz b off (by simpa using hp)
  · intro ha
    have := hn ha
    simpa using this
  · intro p hp _
    simpa using hp

theorem spot_of_cell {W : World} {a : Addr} {v : Value} (h : W.cell? a = some v) : a.spot = none ∧ a.block < W.heap.size := by
  unfold World.cell? at h
  split at h
  · rename_i c T fz hh
    refine ⟨?_, (Array.getElem?_eq_some_iff.1 hh).1⟩
    cases hs : a.spot with
    | none => rfl
    | some _ => rw [hs] at h; simp at h
  · cases h

theorem flat_one {α : Type} {f : α → Value} (xs : List α) : xs.flatMap (fun x => [f x]) = xs.map f := by
  induction xs with
  | nil => rfl
  | cons x xs ih => rw [List.flatMap_cons, ih]; rfl

/-- A slice of numbers that reads is one that may be read. -/
theorem ri_of_trod {W : World} {t e : TypeId} {fuel : Nat} {cs : List Value} {x : DataW H × List MemPlace} (ht : P.underlying t = some (.slice e)) (he : P.underlying e = some (.int .i64)) (hc : P.cellsOf e = 1)
    (h : DataW.trod enc P W 0 (fun _ => true) true fuel t cs = some x) : ∃ A c n xs, cs = [.slice A n c] ∧ RI W 0 A c n xs := by
  rcases open_ints ht he hc h with ⟨rfl, _⟩ | ⟨a, len, cap, zs, rfl, _, hl, hm, hz, _, hcell, _⟩
  · exact ⟨none, 0, 0, [], rfl, rfl, Rd.none_ _ _ _⟩
  · have hz' : zs.length = cap := by simpa using hz
    refine ⟨some a, cap, len, zs.take len, rfl, by rw [List.length_take]; omega, ⟨?_, hl, hm, (fun h => by cases h), fun b hb hn => ?_⟩⟩
    · show ((zs.take len).flatMap fun x => [Value.int .i64 x]).length = len * 1
      rw [flat_one, List.length_map, List.length_take]; omega
    · obtain rfl := Option.some.inj hb
      have h0 := spot_of_cell (hcell 0 (by omega))
      refine ⟨?_, Nat.zero_le _, ?_, fun j u hu => ?_⟩
      · have := h0.1
        simp only [Addr.add] at this
        split at this <;> first | exact this | contradiction | omega
      · have := h0.2
        simp only [Addr.add] at this
        split at this <;> first | exact this | contradiction | omega
      replace hu : ((zs.take len).flatMap fun x => [Value.int .i64 x])[j]? = some u := hu
      rw [flat_one, List.getElem?_map, Option.map_eq_some_iff] at hu
      obtain ⟨y, hy, rfl⟩ := hu
      rw [List.getElem?_take] at hy
      split at hy
      · have hj := (List.getElem?_eq_some_iff.1 hy).1
        have := hcell j hj
        rw [List.getD_eq_getElem?_getD, hy] at this
        obtain ⟨g, off, spot⟩ := a
        have hs : spot = none := by
          have := h0.1
          simp only [Addr.add] at this
          split at this <;> first | exact this | contradiction | omega
        subst hs
        rw [Addr.add_lit] at this
        exact this
      · cases hy

/-- A head that reads is three numbers. -/
theorem head_of_trod {W : World} {t ti : TypeId} {f0 f1 f2 : Field} {fuel : Nat} {cs : List Value} {x : DataW H × List MemPlace} (ht : P.underlying t = some (.struct #[f0, f1, f2])) (hi : P.underlying ti = some (.int .i64)) (hci : P.cellsOf ti = 1) (hct : P.cellsOf t = 3)
    (e0 : f0.type = ti ∧ f0.offset = 0) (e1 : f1.type = ti ∧ f1.offset = 1) (e2 : f2.type = ti ∧ f2.offset = 2)
    (h : DataW.trod enc P W 0 (fun _ => true) true fuel t cs = some x) : ∃ a b c : Int, cs = [.int .i64 a, .int .i64 b, .int .i64 c] := by
  obtain ⟨xs, n, _, _, hl, hxl, hf⟩ := DataW.trod_struct ht h
  rw [hct] at hl
  have key : ∀ (i : Nat) (f : Field), #[f0, f1, f2][i]? = some f → f.type = ti → ∃ a : Int, (cs.drop f.offset).take 1 = [.int .i64 a] := by
    intro i f hfi hft
    have h1 := hf i f hfi
    have hx : i < xs.length := by
      have := (Array.getElem?_eq_some_iff.1 hfi).1
      rw [hxl]; exact this
    rw [hft, hci, List.getElem?_eq_getElem hx] at h1
    obtain ⟨a, ha, _⟩ := DataW.trod_int hi h1
    exact ⟨a, ha⟩
  match cs, hl with
  | [c0, c1, c2], _ =>
    obtain ⟨a, ha⟩ := key 0 f0 rfl e0.1
    obtain ⟨b, hb⟩ := key 1 f1 rfl e1.1
    obtain ⟨c, hc⟩ := key 2 f2 rfl e2.1
    rw [e0.2] at ha
    rw [e1.2] at hb
    rw [e2.2] at hc
    simp at ha hb hc
    exact ⟨a, b, c, by rw [ha, hb, hc]⟩

/-- A gate that reads is a head and a slice of numbers. -/
theorem gate_of_trod {W : World} {t th ts ti : TypeId} {f0 f1 h0 h1 h2 : Field} {fuel : Nat} {cs : List Value} {x : DataW H × List MemPlace} (ht : P.underlying t = some (.struct #[f0, f1])) (hth : P.underlying th = some (.struct #[h0, h1, h2])) (hts : P.underlying ts = some (.slice ti)) (hi : P.underlying ti = some (.int .i64))
    (hci : P.cellsOf ti = 1) (hch : P.cellsOf th = 3) (hcs : P.cellsOf ts = 1) (hct : P.cellsOf t = 4)
    (e0 : f0.type = th ∧ f0.offset = 0) (e1 : f1.type = ts ∧ f1.offset = 3) (g0 : h0.type = ti ∧ h0.offset = 0) (g1 : h1.type = ti ∧ h1.offset = 1) (g2 : h2.type = ti ∧ h2.offset = 2)
    (h : DataW.trod enc P W 0 (fun _ => true) true fuel t cs = some x) : ∃ (a b c : Int) (A : Option Addr) (d n : Nat) (zs : List Int), cs = [.int .i64 a, .int .i64 b, .int .i64 c, .slice A n d] ∧ RI W 0 A d n zs := by
  obtain ⟨xs, n, _, _, hl, hxl, hf⟩ := DataW.trod_struct ht h
  rw [hct] at hl
  have k0 := hf 0 f0 rfl
  have k1 := hf 1 f1 rfl
  rw [e0.1, e0.2, hch, List.getElem?_eq_getElem (by rw [hxl]; exact Nat.zero_lt_succ _)] at k0
  rw [e1.1, e1.2, hcs, List.getElem?_eq_getElem (by rw [hxl]; exact Nat.one_lt_two)] at k1
  obtain ⟨a, b, c, q0⟩ := head_of_trod hth hi hci hch g0 g1 g2 k0
  obtain ⟨A, d, m, zs, q1, hr⟩ := ri_of_trod hts hi hci k1
  match cs, hl with
  | [c0, c1, c2, c3], _ =>
    simp at q0 q1
    obtain ⟨rfl, rfl, rfl⟩ := q0
    exact ⟨_, _, _, A, d, m, zs, by rw [q1], hr⟩

theorem slice_form {W : World} {base : Nat} {t e : TypeId} {v : Value} {A : Option Addr} {n c : Nat} (ht : P.underlying t = some (.slice e)) (hv : Value.okWide P W .any base t v) (h : v.cells.toList = [.slice A n c]) : v = .slice A n c := by
  unfold Value.okWide at hv
  rw [ht] at hv
  unfold Cell.okWide Cell.ok at hv
  rw [ht] at hv
  cases v <;> simp_all [Value.cells]
end
end Go.Proofs.Ytgceeggfdomdjaa

namespace Go.Proofs.Ytgceeggfdomdjaa
set_option maxRecDepth 100000
set_option linter.unusedSimpArgs false
set_option linter.unusedVariables false
open Go.ChangeShapes Go.WideShapes Go.ChangeAt Go.RowKit Go

section
variable {H : Type} {enc : TypeId × Value → H} {P : Program} {W : World}
theorem add_spot {a : Addr} (h : a.spot = none) (i : Nat) : a.add i = ⟨a.block, a.off + i, none⟩ := by
  obtain ⟨b, o, s⟩ := a
  dsimp only at h
  subst h
  exact Addr.add_lit _ _ _
/-- A slice whose elements read as things of α. -/
theorem rs_of_trod {α : Type} {ec : α → List Value} {sz : Nat} {t e : TypeId} {fuel : Nat} {cs : List Value} {x : DataW H × List MemPlace} (ht : P.underlying t = some (.slice e)) (hc : P.cellsOf e = sz) (hp : 0 < sz) (hsz : ∀ y, (ec y).length = sz)
    {Q : α → Prop} (he : ∀ n cs y, DataW.trod enc P W 0 (fun _ => true) true n e cs = some y → ∃ z : α, cs = ec z ∧ Q z) (h : DataW.trod enc P W 0 (fun _ => true) true fuel t cs = some x) :
    ∃ A c n xs, cs = [.slice A n c] ∧ Rs ec sz W 0 A c n xs ∧ ∀ y ∈ xs, Q y := by
  rcases Go.Deep.open_slice ht h with ⟨rfl, _⟩ | ⟨a, len, cap, m, n, D, Pl, rfl, _, hl, hm, hmm, hxx, hi⟩
  · exact ⟨none, 0, 0, [], rfl, ⟨rfl, Rd.none_ _ _ _⟩, by simp⟩
  · rw [if_pos rfl] at hmm
    subst hmm
    rw [hc] at hi
    have hi2 : ∀ i, i < len → ∃ z : α, Q z ∧ ∀ j, j < sz → W.cell? ((a.add (i * sz)).add j) = (ec z)[j]? := by
      intro i hil
      obtain ⟨cs', h1, h2⟩ := hi i (by omega)
      obtain ⟨z, rfl, hq⟩ := he _ _ _ h2
      exact ⟨z, hq, (World.cells?_some h1).2.2⟩
    have spot : 0 < len → a.spot = none ∧ a.block < W.heap.size := by
      intro h0
      obtain ⟨z, _, hz⟩ := hi2 0 h0
      have h1 := hz 0 hp
      rw [List.getElem?_eq_getElem (by rw [hsz]; exact hp)] at h1
      have h2 := spot_of_cell h1
      rw [Nat.zero_mul] at h2
      have e0 : ∀ b : Addr, (b.add 0).spot = none → b.spot = none := by
        intro b hb
        simp only [Addr.add] at hb
        split at hb <;> first | exact hb | contradiction | omega
      have e1 : ∀ b : Addr, (b.add 0).block = b.block := by
        intro b
        simp only [Addr.add]
        split <;> rfl
      exact ⟨e0 _ (e0 _ h2.1), by rw [e1, e1] at h2; exact h2.2⟩
    obtain ⟨xs, hlen, hxs⟩ : ∃ xs : List α, xs.length = len ∧ ∀ i z, xs[i]? = some z → Q z ∧ ∀ j, j < sz → W.cell? ((a.add (i * sz)).add j) = (ec z)[j]? := by
      clear hi spot h hl hxx
      induction len with
      | zero => exact ⟨[], rfl, by simp⟩
      | succ k ih =>
        obtain ⟨xs, h1, h2⟩ := ih (fun i hi => hi2 i (by omega))
        obtain ⟨z, hz⟩ := hi2 k (by omega)
        refine ⟨xs ++ [z], by simp [h1], fun i y hy => ?_⟩
        rw [List.getElem?_append] at hy
        split at hy
        · exact h2 i y hy
        · have : i = k := by
            have := (List.getElem?_eq_some_iff.1 hy).1
            simp at this
            omega
          subst this
          rw [h1, Nat.sub_self] at hy
          simp at hy
          subst hy
          exact hz
    refine ⟨some a, m, len, xs, rfl, ⟨hlen.symm, ⟨?_, hl, hm, (fun h => by cases h), fun b hb hn => ?_⟩⟩, fun y hy => ?_⟩
    · have key : ∀ xs : List α, (xs.flatMap ec).length = xs.length * sz := by
        intro xs
        induction xs with
        | nil => simp
        | cons x xs ih => simp only [List.flatMap_cons, List.length_append, hsz, ih, List.length_cons, Nat.succ_mul]; omega
      rw [key, hlen]
    · obtain rfl := Option.some.inj hb
      obtain ⟨s1, s2⟩ := spot hn
      refine ⟨s1, Nat.zero_le _, s2, fun j u hu => ?_⟩
      have key : ∀ xs : List α, (xs.flatMap ec).length = xs.length * sz := by
        intro xs
        induction xs with
        | nil => simp
        | cons x xs ih => simp only [List.flatMap_cons, List.length_append, hsz, ih, List.length_cons, Nat.succ_mul]; omega
      have hj := (List.getElem?_eq_some_iff.1 hu).1
      rw [key] at hj
      have hk : j / sz < xs.length := Nat.div_lt_of_lt_mul (by rw [Nat.mul_comm]; exact hj)
      have hr : j % sz < sz := Nat.mod_lt _ hp
      have hd : j / sz * sz + j % sz = j := by rw [Nat.mul_comm]; exact Nat.div_add_mod _ _
      have h1 := flat_get hsz xs (j / sz) (j % sz) hk hr
      rw [hd, hu] at h1
      have h2 := (hxs (j / sz) _ (List.getElem?_eq_getElem hk)).2 (j % sz) hr
      rw [← h1, add_spot s1, add_spot rfl] at h2
      dsimp only at h2
      rw [Nat.add_assoc, hd] at h2
      exact h2
    · obtain ⟨i, hi⟩ := List.getElem?_of_mem hy
      exact (hxs i y hi).1

def fieldsInt (fs : Array Field) (ti : TypeId) : Bool := (List.range fs.size).all fun i => match fs[i]? with
  | some f => decide (f.type = ti) && decide (f.offset = i)
  | none => false
def valInt : Value → Int
  | .int _ n => n
  | _ => 0
/-- A struct of numbers. -/
theorem ints_of_trod {t ti : TypeId} {fs : Array Field} {fuel : Nat} {cs : List Value} {x : DataW H × List MemPlace} (ht : P.underlying t = some (.struct fs)) (hi : P.underlying ti = some (.int .i64)) (hci : P.cellsOf ti = 1) (hct : P.cellsOf t = fs.size) (hf : fieldsInt fs ti = true)
    (h : DataW.trod enc P W 0 (fun _ => true) true fuel t cs = some x) : ∃ zs : List Int, zs.length = fs.size ∧ cs = zs.map (Value.int .i64) := by
  obtain ⟨xs, n, _, _, hl, hxl, hg⟩ := DataW.trod_struct ht h
  have key : ∀ i, i < fs.size → ∃ a : Int, cs[i]? = some (.int .i64 a) := by
    intro i hi'
    have h0 := List.all_eq_true.1 hf i (List.mem_range.2 hi')
    have hfi : fs[i]? = some fs[i] := Array.getElem?_eq_getElem hi'
    rw [hfi] at h0
    simp only [Bool.and_eq_true, decide_eq_true_eq] at h0
    have h1 := hg i fs[i] hfi
    rw [h0.1, h0.2, hci, List.getElem?_eq_getElem (by omega)] at h1
    obtain ⟨a, ha, _⟩ := DataW.trod_int hi h1
    refine ⟨a, ?_⟩
    rw [List.drop_eq_getElem_cons (by omega)] at ha
    simp only [List.take_succ_cons, List.take_zero, List.cons.injEq, and_true] at ha
    rw [List.getElem?_eq_getElem (by omega), ha]
  refine ⟨cs.map valInt, by simp [hl, hct], ?_⟩
  apply List.ext_getElem?
  intro i
  rw [List.getElem?_map, List.getElem?_map]
  by_cases hi' : i < fs.size
  · obtain ⟨a, ha⟩ := key i hi'
    rw [ha]; rfl
  · rw [List.getElem?_eq_none (by omega)]; rfl
/-- A field of a struct. -/
theorem field_of_trod {t : TypeId} {fs : Array Field} {fuel : Nat} {cs : List Value} {x : DataW H × List MemPlace} (ht : P.underlying t = some (.struct fs)) (h : DataW.trod enc P W 0 (fun _ => true) true fuel t cs = some x) {i : Nat} {f : Field} {ft : TypeId} {o k : Nat}
    (hf : fs[i]? = some f) (h1 : f.type = ft) (h2 : f.offset = o) (h3 : P.cellsOf ft = k) : ∃ n y, DataW.trod enc P W 0 (fun _ => true) true n ft ((cs.drop o).take k) = some y := by
  obtain ⟨xs, n, _, _, hl, hxl, hg⟩ := DataW.trod_struct ht h
  have h0 := hg i f hf
  have hi' := (Array.getElem?_eq_some_iff.1 hf).1
  rw [h1, h2, h3, List.getElem?_eq_getElem (by omega)] at h0
  exact ⟨n, _, h0⟩
theorem struct_len {t : TypeId} {fs : Array Field} {fuel : Nat} {cs : List Value} {x : DataW H × List MemPlace} (ht : P.underlying t = some (.struct fs)) (h : DataW.trod enc P W 0 (fun _ => true) true fuel t cs = some x) : cs.length = P.cellsOf t := by
  obtain ⟨xs, n, _, _, hl, hxl, hg⟩ := DataW.trod_struct ht h
  exact hl
end
end Go.Proofs.Ytgceeggfdomdjaa

namespace Go.Proofs.Ytgceeggfdomdjaa
set_option maxRecDepth 100000
set_option linter.unusedSimpArgs false
set_option linter.unusedVariables false
open Go.ChangeShapes Go.WideShapes Go.ChangeAt Go.RowKit Go
section
variable {H : Type} {enc : TypeId × Value → H} {W : World}
theorem cells_B : Try.prog.cellsOf 5 = 1 := by kernel_rfl
theorem o_bytes {n : Nat} {cs : List Value} {y : DataW H × List MemPlace} (h : DataW.trod enc Try.prog W 0 (fun _ => true) true n 22 cs = some y) : ∃ A c n xs, cs = [.slice A n c] ∧ RB W 0 A c n xs ∧ ∀ x ∈ xs, 0 ≤ x ∧ x ≤ 255 :=
  rs_of_trod (ec := encB) (sz := 1) (Q := fun x => 0 ≤ x ∧ x ≤ 255) Try.underlying22 cells_B (by omega) (fun _ => rfl) (fun n cs y h => by
    obtain ⟨a, rfl, _, hw⟩ := DataW.trod_int Try.underlying5 h
    refine ⟨a, rfl, ?_⟩
    simp only [Lit.wf, Bool.and_eq_true, decide_eq_true_eq] at hw
    exact hw) h
end
end Go.Proofs.Ytgceeggfdomdjaa

namespace Go.Proofs.Ytgceeggfdomdjaa
set_option maxRecDepth 100000
set_option linter.unusedSimpArgs false
set_option linter.unusedVariables false
open Go.ChangeShapes Go.WideShapes Go.ChangeAt Go.RowKit Go
theorem own_knob : ownKnob Try.prog.godebug = none := by kernel_rfl
theorem laid_out : laidOutB Try.prog = true := by kernel_rfl
end Go.Proofs.Ytgceeggfdomdjaa

