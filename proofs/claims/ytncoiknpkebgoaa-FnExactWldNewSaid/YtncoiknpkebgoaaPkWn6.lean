/-
  Texts joined: WldNw, Law3, LawMk, Mkt3, LawMk2, LawMkW.
-/
import Derived.Test.YtncoiknpkebgoaaPkWn5
import Derived.Test.YtncoiknpkebgoaaPkWn3
import Derived.Test.YtncoiknpkebgoaaPkWn4
namespace Go.Proofs.Ytncoiknpkebgoaa
set_option maxRecDepth 100000
set_option linter.unusedSimpArgs false
set_option linter.unusedVariables false
open Go.RowKit Go
set_option maxHeartbeats 8000000

theorem ne_off {g i j : Nat} (h : i ≠ j) : (⟨g, i, none⟩ : Addr) ≠ ⟨g, j, none⟩ := fun e => h (congrArg Addr.off e)
theorem WN.zero {τ : Nat → Nat} {w : World} {lo : Nat} : WN τ w lo none 0 0 none 0 0 none 0 0 none 0 0 none 0 0 none 0 0 none 0 0 Sw.worldZ := ⟨OwT.nil .., OwM.zero, OwT.nil .., by intro g hg; simp [Sw.worldZ] at hg, rfl, rfl⟩
theorem low_keep {S : Nat → Prop} {wr X w2 : World} {lo g : Nat} (_ : Ch S X w2) (hlow : ∀ b, b < lo → w2.heap[b]? = X.heap[b]?) (k : KF 0 wr X) (hg : g < lo) (hl : g < wr.heap.size) : ∀ j, w2.cell? ⟨g, j, none⟩ = wr.cell? ⟨g, j, none⟩ :=
  fun j => (World.cell?_of_block (w := X) (a := ⟨g, j, none⟩) (hlow g hg)).trans (World.cell?_of_block (w := wr) (a := ⟨g, j, none⟩) (k.block g (Nat.zero_le _) hl))
/-- The pieces' state, where so many operations are still to come. -/
structure NewWS (A : Option Addr) (c : Nat) (xs : List Int) (g3 : Nat) (bL : Option Addr) (bLc bLn : Nat) (bP : Option Addr) (bPc bPn : Nat) (bD : Option Addr) (bDc bDn : Nat) (bN : Option Addr) (bNc bNn : Nat) (bS : Option Addr) (bSc bSn : Nat) (K : Int) (w W0 : World) (n : Nat) (l : Array Bool) (a : Act) (wx : World) : Prop where
  keep : KF 0 w wx
  held : HeldB (w.heap.size) 10 W0 wx
  up : W0.heap.size ≤ wx.heap.size
  st : ∃ (l0 r0 r1 r2 : Bool) (v0 u0 u1 u2 : Value) (τ : Nat → Nat), n = cb l0 + cb r0 + cb r1 + cb r2 ∧ l = #[l0, true, r0, true, r2, r1, false] ∧ a = ⟨#[.slice A 5 c, undef, .pointer (some ⟨w.heap.size, 0, none⟩), .pointer (some ⟨g3, 0, none⟩), u1, undef, .slice A 5 c, .agg #[.slice bL bLn bLc, .slice bP bPn bPc, .slice bD bDn bDc, .int .i64 K, .slice bN bNn bNc, .slice bS bSn bSc], .pointer (some ⟨g3, 1, none⟩), .slice bP bPn bPc, .int .i64 5, .bool false, undef, v0, .slice A 5 c, u0, .agg #[.slice bL bLn bLc, .slice bP bPn bPc, .slice bD bDn bDc, .int .i64 K, .slice bN bNn bNc, .slice bS bSn bSc], u2, undef, undef, undef, undef, undef, undef, undef, undef, undef, undef, undef], []⟩ ∧ CopySt encI 1 3 τ 6 wx W0.heap.size 5 xs l0 r0 v0 u0 ∧ AllocSt τ 7 wx W0.heap.size 10 r1 u1 ∧ BuildSt (fun u => .agg #[u, .slice bL bLn bLc, .slice bP bPn bPc, .slice bD bDn bDc, .int .i64 K, .slice bN bNn bNc, .slice bS bSn bSc, .slice none 0 0, .slice none 0 0, .slice none 0 0]) u0 r0 r2 u2
/-- The pieces' state, where so many operations are still to come. -/
structure NewWI (A : Option Addr) (c : Nat) (xs : List Int) (g3 : Nat) (bL : Option Addr) (bLc bLn : Nat) (bP : Option Addr) (bPc bPn : Nat) (bD : Option Addr) (bDc bDn : Nat) (bN : Option Addr) (bNc bNn : Nat) (bS : Option Addr) (bSc bSn : Nat) (K : Int) (w W0 : World) (n : Nat) (l : Array Bool) (a : Act) (wx : World) : Prop where
  keep : KF 0 w wx
  held : HeldB (w.heap.size) 10 W0 wx
  up : W0.heap.size ≤ wx.heap.size
  st : ∃ (r0 r1 r2 : Bool) (u0 u1 u2 : Value) (τ : Nat → Nat), n = cb r0 + cb r1 + cb r2 ∧ l = #[true, r0, true, r2, r1, false] ∧ a = ⟨#[.slice A 5 c, undef, .pointer (some ⟨w.heap.size, 0, none⟩), .pointer (some ⟨g3, 0, none⟩), u1, .slice A 5 c, .agg #[.slice bL bLn bLc, .slice bP bPn bPc, .slice bD bDn bDc, .int .i64 K, .slice bN bNn bNc, .slice bS bSn bSc], .pointer (some ⟨g3, 1, none⟩), .slice bP bPn bPc, .int .i64 5, .bool false, undef, .slice A 5 c, u0, .agg #[.slice bL bLn bLc, .slice bP bPn bPc, .slice bD bDn bDc, .int .i64 K, .slice bN bNn bNc, .slice bS bSn bSc], u2, undef, undef, undef, undef, undef, undef, undef, undef, undef, undef], []⟩ ∧ MakeSt encI 1 3 τ 6 wx W0.heap.size 5 xs r0 u0 ∧ AllocSt τ 7 wx W0.heap.size 10 r1 u1 ∧ BuildSt (fun u => .agg #[u, .slice bL bLn bLc, .slice bP bPn bPc, .slice bD bDn bDc, .int .i64 K, .slice bN bNn bNc, .slice bS bSn bSc, .slice none 0 0, .slice none 0 0, .slice none 0 0]) u0 r0 r2 u2
theorem sWldNew_c (A : Option Addr) (c n : Nat) (xs : List Int) (w : World) (hxs : RI w 0 A c n xs) : Calls Try.prog 37 #[.slice A n c] w fun E w' => ∃ F Fc Fn bL bLc bLn bP bPc bPn bD bDc bDn bN bNc bNn bS bSc bSn G Gc Gn τ, E = .returned (.agg #[.slice F Fn Fc, .slice bL bLn bLc, .slice bP bPn bPc, .slice bD bDn bDc, .int .i64 (Sw.wldNew xs).market.clock, .slice bN bNn bNc, .slice bS bSn bSc, .slice none 0 0, .slice G Gn Gc, .slice none 0 0]) ∧ WN τ w' w.heap.size F Fc Fn bL bLc bLn bP bPc bPn bD bDc bDn bN bNc bNn bS bSc bSn G Gc Gn (Sw.wldNew xs) ∧ Ex w w' := by
  by_cases gv : (Sw.monOk xs && decide (Sw.monSum xs ≤ 100000)) = true
  case neg =>
    have e : Sw.wldNew xs = Sw.worldZ := by unfold Sw.wldNew; rw [if_neg gv]
    have em : Sw.mktNew xs = Sw.mktZ := by unfold Sw.mktNew; rw [if_neg gv]
    have He := Lib.hid e; have Hm := Lib.hid em; clear e em gv
    go_enter Try.func37, Try.ntmps37
    go_wp2_with fail
    apply Calls.mono
    apply sMktNew_c
    · apply Rs.at0 hxs; (exact kf_)
    rintro E w1 ⟨bL, bLc, bLn, bP, bPc, bPn, bD, bDc, bDn, bN, bNc, bNn, bS, bSc, bSn, τm, rfl, hoM, hb⟩
    obtain rfl : bPn = 0 := by have := hoM.purses.ow.1; rw [Hm.out] at this; exact this
    have hst := xr hb; (try simp only [zA, zC, zD, zN] at hst); obtain ⟨hc, hf, hz⟩ := hst
    go_wp2_with fail
    refine bodyPost_ret (v := .agg #[.slice none 0 0, .slice none 0 0, .slice none 0 0, .slice none 0 0, .int .i64 0, .slice none 0 0, .slice none 0 0, .slice none 0 0, .slice none 0 0, .slice none 0 0]) (by simp [results, Try.results37, go_sem, *]) rfl ?_
    refine ⟨_, _, _, _, _, _, _, _, _, _, _, _, _, _, _, _, _, _, _, _, _, fun _ => 0, by rw [He.out]; rfl, ?_, ext_⟩
    rw [He.out]
    exact WN.zero
  have e : Sw.wldNew xs = ⟨xs, Sw.mktNew xs, [], [Sw.gatNew, Sw.gatNew], []⟩ := by unfold Sw.wldNew; rw [if_pos gv]
  have em : Sw.mktNew xs = ⟨[], xs, [], 0, [0, 0, 0, 0, 0], [0, 0, 0, 0, 0]⟩ := by unfold Sw.mktNew; rw [if_pos gv]
  have h5 : xs.length = 5 := monOk_len (Bool.and_eq_true_iff.1 gv).1
  have hn5 : n = 5 := by rw [hxs.1, h5]
  subst hn5
  have He := Lib.hid e; have Hm := Lib.hid em; have H5 := Lib.hid h5; clear e em gv h5
  go_enter Try.func37, Try.ntmps37
  go_wp2_with fail
  apply Calls.mono
  apply sMktNew_c
  · apply Rs.at0 hxs; (exact kf_)
  rintro E w1 ⟨bL, bLc, bLn, bP, bPc, bPn, bD, bDc, bDn, bN, bNc, bNn, bS, bSc, bSn, τm, rfl, hoM, hb⟩
  have hbM := hb
  obtain rfl : bPn = 5 := by have := hoM.purses.ow.1; rw [Hm.out] at this; exact this.trans H5.out
  have hst := xr hb; (try simp only [zA, zC, zD, zN] at hst); obtain ⟨hc, hf, hz⟩ := hst
  go_wp2_with fail
  (refine wp_name ?_; intro W0 hb0; have hst := xr hb0; (try simp only [zA, zC, zD, zN] at hst); obtain ⟨hc0, hf0, hz0⟩ := hst; have hLb : Lb W0 (w.heap.size) 10 := Lb.ex (by exact lbc_) hb0; refine wp_region_held_drew (S := fun w' => HeldB (w.heap.size) 10 W0 w') (by kernel_rfl) ?_ (fun hHeld => ?_); (focus ((try dsimp only); (first | with_reducible assumption | with_reducible exact HeldB.start hLb | with_reducible exact HeldB.of (by assumption) (by assumption) | ((repeat (first | with_reducible refine HeldB.set ?_ (by first | exact Or.inl rfl | exact Or.inr (by simp only [zA, zC, zD, zN]; omega) | exact Or.inr (by omega)) | with_reducible refine HeldB.alloc ?_ _ | with_reducible refine HeldB.drew ?_)); (first | with_reducible assumption | with_reducible exact HeldB.refl hLb | with_reducible exact HeldB.of (by assumption) (by assumption) | with_reducible exact HeldB.ex (by assumption) (by assumption)))))); refine regT 1 14 (v := ?_) rfl rfl (by kernel_rfl) (by kernel_rfl) (by kernel_rfl) (fun _ _ _ h => h) (by rfl) ?_ (by assumption) ?_; rotate_left; (focus (intro w hSw; (try dsimp only at hSw); (try (have hst := xc (HeldB.ch hSw); (try simp only [zA, zC, zD, zN] at hst); obtain ⟨hcS, hfS, hzS⟩ := hst)); go_simp; (try with_reducible rfl))); (try simp only [Act.put, List.setIfInBounds_toArray, List.set_cons_zero, List.set_cons_succ]); refine regT 3 16 (v := ?_) rfl rfl (by kernel_rfl) (by kernel_rfl) (by kernel_rfl) (fun _ _ _ h => h) (by rfl) ?_ (by assumption) ?_; rotate_left; (focus (intro w hSw; (try dsimp only at hSw); (try (have hst := xc (HeldB.ch hSw); (try simp only [zA, zC, zD, zN] at hst); obtain ⟨hcS, hfS, hzS⟩ := hst)); go_simp; (try with_reducible rfl))); (try simp only [Act.put, List.setIfInBounds_toArray, List.set_cons_zero, List.set_cons_succ]))
  have hlt0 : w.heap.size < W0.heap.size := hLb.lt
  refine wpAnyH_inv (Inv := NewWS A c xs w1.heap.size bL bLc bLn bP bPc 5 bD bDc bDn bN bNc bNn bS bSc bSn (Sw.mktNew xs).clock w W0) (k := 1) ?_ ?_ ?_ 4 _ _ _ ?_
  case refine_4 =>
    exact ⟨by (exact kf_), hHeld, Nat.le_refl _, false, false, false, false, undef, undef, undef, undef, fun _ => 0, rfl, by kernel_rfl, rfl, .none _ _, .none _, .none _ _⟩
  case refine_1 =>
    rintro l a wx ⟨hk, hHeld, hup, l0, r0, r1, r2, v0, u0, u1, u2, τ, hn0, rfl, rfl, C0, C1, C2⟩
    obtain rfl : l0 = true := by cases l0 <;> first | rfl | (exfalso; revert hn0; simp [cb]; done) | (exfalso; revert hn0; simp [cb]; omega)
    obtain rfl : r0 = true := by cases r0 <;> first | rfl | (exfalso; revert hn0; simp [cb]; done) | (exfalso; revert hn0; simp [cb]; omega)
    obtain rfl : r1 = true := by cases r1 <;> first | rfl | (exfalso; revert hn0; simp [cb]; done) | (exfalso; revert hn0; simp [cb]; omega)
    obtain rfl : r2 = true := by cases r2 <;> first | rfl | (exfalso; revert hn0; simp [cb]; done) | (exfalso; revert hn0; simp [cb]; omega)
    obtain rfl : u2 = (fun u => .agg #[u, .slice bL bLn bLc, .slice bP 5 bPc, .slice bD bDn bDc, .int .i64 (Sw.mktNew xs).clock, .slice bN bNn bNc, .slice bS bSn bSc, .slice none 0 0, .slice none 0 0, .slice none 0 0]) u0 := by (cases C2; rfl)
    obtain ⟨A0, c0, rfl, t0⟩ : ∃ A c, u0 = .slice A 5 c ∧ OwT encI 1 3 τ 6 wx W0.heap.size A c 5 xs := by (cases C0; exact ⟨_, _, rfl, by assumption⟩)
    obtain ⟨g1, rfl, hg1, hLg1, ht1⟩ : ∃ g, u1 = .pointer (some ⟨g, 0, none⟩) ∧ W0.heap.size ≤ g ∧ Lb wx g 10 ∧ τ g = 7 := by (cases C1; exact ⟨_, rfl, by assumption, by assumption, by assumption⟩)
    clear C0 C1 C2 hn0
    refine wpAnyH_ready (rs := [6]) (by kernel_rfl) (by simp) ?_
    refine AllReadyH.cons rfl (fun K hK => ?_) ?_
    rotate_left
    focus exact AllReadyH.nil
    have hLbx := hLg1
    obtain ⟨hcx, hfx⟩ := Lb.rules hLbx
    go_simp
    refine hK.out _ _ ?_ (fun hHx => ?_)
    focus ((first | with_reducible assumption | with_reducible exact HeldB.start hLb | with_reducible exact HeldB.of (by assumption) (by assumption) | ((repeat (first | with_reducible refine HeldB.set ?_ (by first | exact Or.inl rfl | exact Or.inr (by simp only [zA, zC, zD, zN]; omega) | exact Or.inr (by omega)) | with_reducible refine HeldB.alloc ?_ _ | with_reducible refine HeldB.drew ?_)); (first | with_reducible assumption | with_reducible exact HeldB.refl hLb | with_reducible exact HeldB.of (by assumption) (by assumption) | with_reducible exact HeldB.ex (by assumption) (by assumption)))))
    have hb := hHeld.ch
    clear hK K hHeld hcx hfx hLbx
    (have hst := xc hb; (try simp only [zA, zC, zD, zN] at hst); obtain ⟨hc, hf, hz⟩ := hst)
    have hLb3 := HeldB.lb hHx
    repeat (replace hLb3 := Lb.unset hLb3)
    obtain ⟨hcb, hfb⟩ := Lb.rules hLg1
    have hbf := HeldB.ch hHx
    clear hHx
    refine wpAnyH_done (by kernel_rfl) ?_ _
    go_wp2_with fail
    (refine wp_name ?_; intro W0 hb0; have hst := xr hb0; (try simp only [zA, zC, zD, zN] at hst); obtain ⟨hc0, hf0, hz0⟩ := hst)
    have hLb : Lb W0 g1 10 := Lb.ex (by exact lbc_) hb0
    have hgW : g1 < W0.heap.size := hLb.lt
    have hLw : Lb W0 w.heap.size 10 := Lb.ex (by exact lbc_) hb0
    have q0 : W0.cell? ⟨g1, 0, none⟩ = some (.slice A0 5 c0) := by ((refine (World.cell?_of_block (a := ⟨g1, 0, none⟩) (hb0.block g1 (by simpa [World.setCell] using hLg1.lt) (fun h => h))).trans ?_); (repeat (first | (refine (World.cell?_setCell_other _ _ _ _ (ne_off ?_)).trans ?_; focus decide) | fail)); refine World.cell?_setCell_same _ _ _ (u := peek wx ⟨g1, 0, none⟩) ?_; (repeat (first | (refine (World.cell?_setCell_other _ _ _ _ (ne_off ?_)).trans ?_; focus decide) | fail)); exact hcb 0 (by decide))
    have q1 : W0.cell? ⟨g1, 1, none⟩ = some (.slice bL bLn bLc) := by ((refine (World.cell?_of_block (a := ⟨g1, 1, none⟩) (hb0.block g1 (by simpa [World.setCell] using hLg1.lt) (fun h => h))).trans ?_); (repeat (first | (refine (World.cell?_setCell_other _ _ _ _ (ne_off ?_)).trans ?_; focus decide) | fail)); refine World.cell?_setCell_same _ _ _ (u := peek wx ⟨g1, 1, none⟩) ?_; (repeat (first | (refine (World.cell?_setCell_other _ _ _ _ (ne_off ?_)).trans ?_; focus decide) | fail)); exact hcb 1 (by decide))
    have q2 : W0.cell? ⟨g1, 2, none⟩ = some (.slice bP 5 bPc) := by ((refine (World.cell?_of_block (a := ⟨g1, 2, none⟩) (hb0.block g1 (by simpa [World.setCell] using hLg1.lt) (fun h => h))).trans ?_); (repeat (first | (refine (World.cell?_setCell_other _ _ _ _ (ne_off ?_)).trans ?_; focus decide) | fail)); refine World.cell?_setCell_same _ _ _ (u := peek wx ⟨g1, 2, none⟩) ?_; (repeat (first | (refine (World.cell?_setCell_other _ _ _ _ (ne_off ?_)).trans ?_; focus decide) | fail)); exact hcb 2 (by decide))
    have q3 : W0.cell? ⟨g1, 3, none⟩ = some (.slice bD bDn bDc) := by ((refine (World.cell?_of_block (a := ⟨g1, 3, none⟩) (hb0.block g1 (by simpa [World.setCell] using hLg1.lt) (fun h => h))).trans ?_); (repeat (first | (refine (World.cell?_setCell_other _ _ _ _ (ne_off ?_)).trans ?_; focus decide) | fail)); refine World.cell?_setCell_same _ _ _ (u := peek wx ⟨g1, 3, none⟩) ?_; (repeat (first | (refine (World.cell?_setCell_other _ _ _ _ (ne_off ?_)).trans ?_; focus decide) | fail)); exact hcb 3 (by decide))
    have q4 : W0.cell? ⟨g1, 4, none⟩ = some (.int .i64 (Sw.mktNew xs).clock) := by ((refine (World.cell?_of_block (a := ⟨g1, 4, none⟩) (hb0.block g1 (by simpa [World.setCell] using hLg1.lt) (fun h => h))).trans ?_); (repeat (first | (refine (World.cell?_setCell_other _ _ _ _ (ne_off ?_)).trans ?_; focus decide) | fail)); refine World.cell?_setCell_same _ _ _ (u := peek wx ⟨g1, 4, none⟩) ?_; (repeat (first | (refine (World.cell?_setCell_other _ _ _ _ (ne_off ?_)).trans ?_; focus decide) | fail)); exact hcb 4 (by decide))
    have q5 : W0.cell? ⟨g1, 5, none⟩ = some (.slice bN bNn bNc) := by ((refine (World.cell?_of_block (a := ⟨g1, 5, none⟩) (hb0.block g1 (by simpa [World.setCell] using hLg1.lt) (fun h => h))).trans ?_); (repeat (first | (refine (World.cell?_setCell_other _ _ _ _ (ne_off ?_)).trans ?_; focus decide) | fail)); refine World.cell?_setCell_same _ _ _ (u := peek wx ⟨g1, 5, none⟩) ?_; (repeat (first | (refine (World.cell?_setCell_other _ _ _ _ (ne_off ?_)).trans ?_; focus decide) | fail)); exact hcb 5 (by decide))
    have q6 : W0.cell? ⟨g1, 6, none⟩ = some (.slice bS bSn bSc) := by ((refine (World.cell?_of_block (a := ⟨g1, 6, none⟩) (hb0.block g1 (by simpa [World.setCell] using hLg1.lt) (fun h => h))).trans ?_); (repeat (first | (refine (World.cell?_setCell_other _ _ _ _ (ne_off ?_)).trans ?_; focus decide) | fail)); refine World.cell?_setCell_same _ _ _ (u := peek wx ⟨g1, 6, none⟩) ?_; (repeat (first | (refine (World.cell?_setCell_other _ _ _ _ (ne_off ?_)).trans ?_; focus decide) | fail)); exact hcb 6 (by decide))
    have q7 : W0.cell? ⟨g1, 7, none⟩ = some (.slice none 0 0) := by ((refine (World.cell?_of_block (a := ⟨g1, 7, none⟩) (hb0.block g1 (by simpa [World.setCell] using hLg1.lt) (fun h => h))).trans ?_); (repeat (first | (refine (World.cell?_setCell_other _ _ _ _ (ne_off ?_)).trans ?_; focus decide) | fail)); refine World.cell?_setCell_same _ _ _ (u := peek wx ⟨g1, 7, none⟩) ?_; (repeat (first | (refine (World.cell?_setCell_other _ _ _ _ (ne_off ?_)).trans ?_; focus decide) | fail)); exact hcb 7 (by decide))
    have q8 : W0.cell? ⟨g1, 8, none⟩ = some (.slice none 0 0) := by ((refine (World.cell?_of_block (a := ⟨g1, 8, none⟩) (hb0.block g1 (by simpa [World.setCell] using hLg1.lt) (fun h => h))).trans ?_); (repeat (first | (refine (World.cell?_setCell_other _ _ _ _ (ne_off ?_)).trans ?_; focus decide) | fail)); refine World.cell?_setCell_same _ _ _ (u := peek wx ⟨g1, 8, none⟩) ?_; (repeat (first | (refine (World.cell?_setCell_other _ _ _ _ (ne_off ?_)).trans ?_; focus decide) | fail)); exact hcb 8 (by decide))
    have q9 : W0.cell? ⟨g1, 9, none⟩ = some (.slice none 0 0) := by ((refine (World.cell?_of_block (a := ⟨g1, 9, none⟩) (hb0.block g1 (by simpa [World.setCell] using hLg1.lt) (fun h => h))).trans ?_); (repeat (first | (refine (World.cell?_setCell_other _ _ _ _ (ne_off ?_)).trans ?_; focus decide) | fail)); refine World.cell?_setCell_same _ _ _ (u := peek wx ⟨g1, 9, none⟩) ?_; (repeat (first | (refine (World.cell?_setCell_other _ _ _ _ (ne_off ?_)).trans ?_; focus decide) | fail)); exact hcb 9 (by decide))
    go_loopw [5] (fun i wr => ∃ (k : Nat) (A' : Option Addr) (c' : Nat), k ≤ 2 ∧ i = .int .i64 k ∧ HeldB g1 10 W0 wr ∧ wr.cell? ⟨g1, 8, none⟩ = some (.slice A' k c') ∧ OwGV wr W0.heap.size A' c' k (List.replicate k (gv0 ((Sw.hedOf []).getD Sw.headZ))) ∧ (∀ j, j ≠ 8 → wr.cell? ⟨g1, j, none⟩ = W0.cell? ⟨g1, j, none⟩)) (fun i _ => 2 - (intOf i).toNat)
    case atStart => exact ⟨0, none, 0, by omega, rfl, HeldB.refl hLb, q8, Ow.nil _ _, fun _ _ => rfl⟩
    case round =>
      obtain ⟨k, A', c', hk2, rfl, hB, hq, ho, hrest⟩ := hrel
      have hgl : g1 < wr.heap.size := hB.lb.lt
      have hszW : W0.heap.size ≤ wr.heap.size := hB.ch.size
      by_cases hlt : k < 2
      · have Hr := Lib.hid hrest; clear hrest
        go_wp2_with fail
        refine wp_region_held_drew (S := fun w' => HeldB g1 10 W0 w') (by kernel_rfl) ?_ (fun hHeld => ?_)
        focus ((try dsimp only); ((first | with_reducible assumption | with_reducible exact HeldB.start hLb | with_reducible exact HeldB.of (by assumption) (by assumption) | ((repeat (first | with_reducible refine HeldB.set ?_ (by first | exact Or.inl rfl | exact Or.inr (by simp only [zA, zC, zD, zN]; omega) | exact Or.inr (by omega)) | with_reducible refine HeldB.alloc ?_ _ | with_reducible refine HeldB.drew ?_)); (first | with_reducible assumption | with_reducible exact HeldB.refl hLb | with_reducible exact HeldB.of (by assumption) (by assumption) | with_reducible exact HeldB.ex (by assumption) (by assumption))))))
        refine regT 0 22 (v := ?_) rfl rfl (by kernel_rfl) (by kernel_rfl) (by kernel_rfl) (fun _ _ _ h => h) (by rfl) ?_ (by assumption) ?_
        rotate_left
        focus (intro w hSw; (try dsimp only at hSw); go_simp; (try with_reducible rfl))
        (try simp only [Act.put, List.setIfInBounds_toArray, List.set_cons_zero, List.set_cons_succ])
        refine wpAnyH_ready (rs := [1, 2]) (by kernel_rfl) (by simp) ?_
        refine AllReadyH.cons rfl (fun K hK => ?_) ?_
        · replace hHeld := Lib.hid hHeld
          replace hB := Lib.hid hB
          go_simp
          replace hHeld := hHeld.out
          replace hB := hB.out
          refine hK.out _ _ ?_ (fun hHeldN => ?_)
          focus ((try dsimp only); ((first | with_reducible assumption | with_reducible exact HeldB.start hLb | with_reducible exact HeldB.of (by assumption) (by assumption) | ((repeat (first | with_reducible refine HeldB.set ?_ (by first | exact Or.inl rfl | exact Or.inr (by simp only [zA, zC, zD, zN]; omega) | exact Or.inr (by omega)) | with_reducible refine HeldB.alloc ?_ _ | with_reducible refine HeldB.drew ?_)); (first | with_reducible assumption | with_reducible exact HeldB.refl hLb | with_reducible exact HeldB.of (by assumption) (by assumption) | with_reducible exact HeldB.ex (by assumption) (by assumption))))))
          clear hK K hHeld
          have hHeld := hHeldN
          clear hHeldN
          (try simp only [Act.put, List.setIfInBounds_toArray, List.set_cons_zero, List.set_cons_succ])
          refine wpAnyH_ready (rs := [2]) (by kernel_rfl) (by simp) ?_
          refine AllReadyH.cons rfl (fun K hK => ?_) AllReadyH.nil
          go_simp
          (go_at_call 104; refine (sGatNew_c _).mono ?_; rintro E w1 ⟨rfl, hb⟩; have hst := xr hb; (try simp only [zA, zC, zD, zN] at hst); obtain ⟨hc, hf, hz⟩ := hst)
          (try go_wp2_with fail)
          refine hK.out _ _ ?_ (fun hHeldN => ?_)
          focus ((try dsimp only); ((first | with_reducible assumption | with_reducible exact HeldB.start hLb | with_reducible exact HeldB.of (by assumption) (by assumption) | ((repeat (first | with_reducible refine HeldB.set ?_ (by first | exact Or.inl rfl | exact Or.inr (by simp only [zA, zC, zD, zN]; omega) | exact Or.inr (by omega)) | with_reducible refine HeldB.alloc ?_ _ | with_reducible refine HeldB.drew ?_)); (first | with_reducible assumption | with_reducible exact HeldB.refl hLb | with_reducible exact HeldB.of (by assumption) (by assumption) | with_reducible exact HeldB.ex (by assumption) (by assumption))))))
          clear hK K hHeld
          have hHeld := hHeldN
          clear hHeldN
          (try simp only [Act.put, List.setIfInBounds_toArray, List.set_cons_zero, List.set_cons_succ])
          refine wpAnyH_ready (rs := [3]) (by kernel_rfl) (by simp) ?_
          refine AllReadyH.cons rfl (fun K hK => ?_) AllReadyH.nil
          go_simp
          refine hK.out _ _ ?_ (fun hHeldN => ?_)
          focus ((try dsimp only); ((first | with_reducible assumption | with_reducible exact HeldB.start hLb | with_reducible exact HeldB.of (by assumption) (by assumption) | ((repeat (first | with_reducible refine HeldB.set ?_ (by first | exact Or.inl rfl | exact Or.inr (by simp only [zA, zC, zD, zN]; omega) | exact Or.inr (by omega)) | with_reducible refine HeldB.alloc ?_ _ | with_reducible refine HeldB.drew ?_)); (first | with_reducible assumption | with_reducible exact HeldB.refl hLb | with_reducible exact HeldB.of (by assumption) (by assumption) | with_reducible exact HeldB.ex (by assumption) (by assumption))))))
          clear hK K hHeld
          have hHeld := hHeldN
          clear hHeldN
          (try simp only [Act.put, List.setIfInBounds_toArray, List.set_cons_zero, List.set_cons_succ])
          refine wpAnyH_ready (rs := [4]) (by kernel_rfl) (by simp) ?_
          refine AllReadyH.cons rfl (fun K hK => ?_) AllReadyH.nil
          (apply step_app (lo := W0.heap.size) el_G one_G rfl rfl rfl rfl; (apply Ow.keep ho; (exact kf_)); (refine Rs.new [gv0 ((Sw.hedOf []).getD Sw.headZ)] (by (first | rfl | (simp only [zA, zC, zD, zN]; done) | omega)) rfl rfl (fun _ => rfl) (by omega)); omega; exact sz_; intro A1 c1 w2 ho1 hch1 hat1 hex1 hlow1)
          have hbx := hex1 (· = g1) W0 (HeldB.ch (by assumption : HeldB g1 10 W0 _)) (Nat.le_refl _)
          have hlbx := Lb.low hlow1 hgW (HeldB.lb (by assumption : HeldB g1 10 W0 _))
          have hX8 := low_keep (wr := wr) hch1 hlow1 (by (exact kf_)) hgW hgl
          have hz1 := hch1.size
          (try simp only [zA, zC, zD, zN] at hz1)
          obtain ⟨hcL, hfL⟩ := low_rules hlow1
          clear hex1 hlow1
          (try simp only [Act.put, List.setIfInBounds_toArray, List.set_cons_zero, List.set_cons_succ])
          refine hK.out _ _ ?_ (fun hHeldN => ?_)
          focus ((try dsimp only); ((first | with_reducible assumption | with_reducible exact HeldB.start hLb | with_reducible exact HeldB.of (by assumption) (by assumption) | ((repeat (first | with_reducible refine HeldB.set ?_ (by first | exact Or.inl rfl | exact Or.inr (by simp only [zA, zC, zD, zN]; omega) | exact Or.inr (by omega)) | with_reducible refine HeldB.alloc ?_ _ | with_reducible refine HeldB.drew ?_)); (first | with_reducible assumption | with_reducible exact HeldB.refl hLb | with_reducible exact HeldB.of (by assumption) (by assumption) | with_reducible exact HeldB.ex (by assumption) (by assumption))))))
          clear hK K hHeld
          have hHeld := hHeldN
          clear hHeldN
          (try simp only [Act.put, List.setIfInBounds_toArray, List.set_cons_zero, List.set_cons_succ])
          refine regT 5 27 (v := ?_) rfl rfl (by kernel_rfl) (by kernel_rfl) (by kernel_rfl) (fun _ _ _ h => h) (by rfl) ?_ (by assumption) ?_
          rotate_left
          focus (intro w hSw; (try dsimp only at hSw); go_simp; (try with_reducible rfl))
          (try simp only [Act.put, List.setIfInBounds_toArray, List.set_cons_zero, List.set_cons_succ])
          refine wpAnyH_ready (rs := [6]) (by kernel_rfl) (by simp) ?_
          refine AllReadyH.cons rfl (fun K hK => ?_) AllReadyH.nil
          have hLbx := HeldB.lb hHeld
          obtain ⟨hcx, hfx⟩ := Lb.rules hLbx
          go_simp
          refine hK.out _ _ ?_ (fun hHx => ?_)
          focus ((try dsimp only); ((first | with_reducible assumption | with_reducible exact HeldB.start hLb | with_reducible exact HeldB.of (by assumption) (by assumption) | ((repeat (first | with_reducible refine HeldB.set ?_ (by first | exact Or.inl rfl | exact Or.inr (by simp only [zA, zC, zD, zN]; omega) | exact Or.inr (by omega)) | with_reducible refine HeldB.alloc ?_ _ | with_reducible refine HeldB.drew ?_)); (first | with_reducible assumption | with_reducible exact HeldB.refl hLb | with_reducible exact HeldB.of (by assumption) (by assumption) | with_reducible exact HeldB.ex (by assumption) (by assumption))))))
          clear hK K hHeld
          (try simp only [Act.put, List.setIfInBounds_toArray, List.set_cons_zero, List.set_cons_succ])
          refine wpAnyH_done (by kernel_rfl) ?_ _
          go_wp2_with fail
          go_roundw
          case rel =>
            refine ⟨k + 1, A1, c1, by omega, by go_num, hHx, World.cell?_setCell_same _ _ _ (hcx 8 (by decide)), ?_, ?_⟩
            · rw [List.replicate_succ']; exact Ow.keep ho1 (by (exact kf_))
            · intro j hj; rw [World.cell?_setCell_other _ _ _ _ (by intro e; exact hj (by injection e with _ e; exact e.symm))]; exact (hX8 j).trans (Hr.out j hj)
          case measure => simp [intOf]; omega
        refine AllReadyH.cons rfl (fun K hK => ?_) AllReadyH.nil
        go_simp
        (go_at_call 104; refine (sGatNew_c _).mono ?_; rintro E w1 ⟨rfl, hb⟩; have hst := xr hb; (try simp only [zA, zC, zD, zN] at hst); obtain ⟨hc, hf, hz⟩ := hst)
        (try go_wp2_with fail)
        refine hK.out _ _ ?_ (fun hHeldN => ?_)
        focus ((try dsimp only); ((first | with_reducible assumption | with_reducible exact HeldB.start hLb | with_reducible exact HeldB.of (by assumption) (by assumption) | ((repeat (first | with_reducible refine HeldB.set ?_ (by first | exact Or.inl rfl | exact Or.inr (by simp only [zA, zC, zD, zN]; omega) | exact Or.inr (by omega)) | with_reducible refine HeldB.alloc ?_ _ | with_reducible refine HeldB.drew ?_)); (first | with_reducible assumption | with_reducible exact HeldB.refl hLb | with_reducible exact HeldB.of (by assumption) (by assumption) | with_reducible exact HeldB.ex (by assumption) (by assumption))))))
        clear hK K hHeld
        have hHeld := hHeldN
        clear hHeldN
        (try simp only [Act.put, List.setIfInBounds_toArray, List.set_cons_zero, List.set_cons_succ])
        refine wpAnyH_ready (rs := [1, 3]) (by kernel_rfl) (by simp) ?_
        refine AllReadyH.cons rfl (fun K hK => ?_) ?_
        · replace hHeld := Lib.hid hHeld
          replace hB := Lib.hid hB
          go_simp
          replace hHeld := hHeld.out
          replace hB := hB.out
          refine hK.out _ _ ?_ (fun hHeldN => ?_)
          focus ((try dsimp only); ((first | with_reducible assumption | with_reducible exact HeldB.start hLb | with_reducible exact HeldB.of (by assumption) (by assumption) | ((repeat (first | with_reducible refine HeldB.set ?_ (by first | exact Or.inl rfl | exact Or.inr (by simp only [zA, zC, zD, zN]; omega) | exact Or.inr (by omega)) | with_reducible refine HeldB.alloc ?_ _ | with_reducible refine HeldB.drew ?_)); (first | with_reducible assumption | with_reducible exact HeldB.refl hLb | with_reducible exact HeldB.of (by assumption) (by assumption) | with_reducible exact HeldB.ex (by assumption) (by assumption))))))
          clear hK K hHeld
          have hHeld := hHeldN
          clear hHeldN
          (try simp only [Act.put, List.setIfInBounds_toArray, List.set_cons_zero, List.set_cons_succ])
          refine wpAnyH_ready (rs := [3]) (by kernel_rfl) (by simp) ?_
          refine AllReadyH.cons rfl (fun K hK => ?_) AllReadyH.nil
          go_simp
          refine hK.out _ _ ?_ (fun hHeldN => ?_)
          focus ((try dsimp only); ((first | with_reducible assumption | with_reducible exact HeldB.start hLb | with_reducible exact HeldB.of (by assumption) (by assumption) | ((repeat (first | with_reducible refine HeldB.set ?_ (by first | exact Or.inl rfl | exact Or.inr (by simp only [zA, zC, zD, zN]; omega) | exact Or.inr (by omega)) | with_reducible refine HeldB.alloc ?_ _ | with_reducible refine HeldB.drew ?_)); (first | with_reducible assumption | with_reducible exact HeldB.refl hLb | with_reducible exact HeldB.of (by assumption) (by assumption) | with_reducible exact HeldB.ex (by assumption) (by assumption))))))
          clear hK K hHeld
          have hHeld := hHeldN
          clear hHeldN
          (try simp only [Act.put, List.setIfInBounds_toArray, List.set_cons_zero, List.set_cons_succ])
          refine wpAnyH_ready (rs := [4]) (by kernel_rfl) (by simp) ?_
          refine AllReadyH.cons rfl (fun K hK => ?_) AllReadyH.nil
          (apply step_app (lo := W0.heap.size) el_G one_G rfl rfl rfl rfl; (apply Ow.keep ho; (exact kf_)); (refine Rs.new [gv0 ((Sw.hedOf []).getD Sw.headZ)] (by (first | rfl | (simp only [zA, zC, zD, zN]; done) | omega)) rfl rfl (fun _ => rfl) (by omega)); omega; exact sz_; intro A1 c1 w2 ho1 hch1 hat1 hex1 hlow1)
          have hbx := hex1 (· = g1) W0 (HeldB.ch (by assumption : HeldB g1 10 W0 _)) (Nat.le_refl _)
          have hlbx := Lb.low hlow1 hgW (HeldB.lb (by assumption : HeldB g1 10 W0 _))
          have hX8 := low_keep (wr := wr) hch1 hlow1 (by (exact kf_)) hgW hgl
          have hz1 := hch1.size
          (try simp only [zA, zC, zD, zN] at hz1)
          obtain ⟨hcL, hfL⟩ := low_rules hlow1
          clear hex1 hlow1
          (try simp only [Act.put, List.setIfInBounds_toArray, List.set_cons_zero, List.set_cons_succ])
          refine hK.out _ _ ?_ (fun hHeldN => ?_)
          focus ((try dsimp only); ((first | with_reducible assumption | with_reducible exact HeldB.start hLb | with_reducible exact HeldB.of (by assumption) (by assumption) | ((repeat (first | with_reducible refine HeldB.set ?_ (by first | exact Or.inl rfl | exact Or.inr (by simp only [zA, zC, zD, zN]; omega) | exact Or.inr (by omega)) | with_reducible refine HeldB.alloc ?_ _ | with_reducible refine HeldB.drew ?_)); (first | with_reducible assumption | with_reducible exact HeldB.refl hLb | with_reducible exact HeldB.of (by assumption) (by assumption) | with_reducible exact HeldB.ex (by assumption) (by assumption))))))
          clear hK K hHeld
          have hHeld := hHeldN
          clear hHeldN
          (try simp only [Act.put, List.setIfInBounds_toArray, List.set_cons_zero, List.set_cons_succ])
          refine regT 5 27 (v := ?_) rfl rfl (by kernel_rfl) (by kernel_rfl) (by kernel_rfl) (fun _ _ _ h => h) (by rfl) ?_ (by assumption) ?_
          rotate_left
          focus (intro w hSw; (try dsimp only at hSw); go_simp; (try with_reducible rfl))
          (try simp only [Act.put, List.setIfInBounds_toArray, List.set_cons_zero, List.set_cons_succ])
          refine wpAnyH_ready (rs := [6]) (by kernel_rfl) (by simp) ?_
          refine AllReadyH.cons rfl (fun K hK => ?_) AllReadyH.nil
          have hLbx := HeldB.lb hHeld
          obtain ⟨hcx, hfx⟩ := Lb.rules hLbx
          go_simp
          refine hK.out _ _ ?_ (fun hHx => ?_)
          focus ((try dsimp only); ((first | with_reducible assumption | with_reducible exact HeldB.start hLb | with_reducible exact HeldB.of (by assumption) (by assumption) | ((repeat (first | with_reducible refine HeldB.set ?_ (by first | exact Or.inl rfl | exact Or.inr (by simp only [zA, zC, zD, zN]; omega) | exact Or.inr (by omega)) | with_reducible refine HeldB.alloc ?_ _ | with_reducible refine HeldB.drew ?_)); (first | with_reducible assumption | with_reducible exact HeldB.refl hLb | with_reducible exact HeldB.of (by assumption) (by assumption) | with_reducible exact HeldB.ex (by assumption) (by assumption))))))
          clear hK K hHeld
          (try simp only [Act.put, List.setIfInBounds_toArray, List.set_cons_zero, List.set_cons_succ])
          refine wpAnyH_done (by kernel_rfl) ?_ _
          go_wp2_with fail
          go_roundw
          case rel =>
            refine ⟨k + 1, A1, c1, by omega, by go_num, hHx, World.cell?_setCell_same _ _ _ (hcx 8 (by decide)), ?_, ?_⟩
            · rw [List.replicate_succ']; exact Ow.keep ho1 (by (exact kf_))
            · intro j hj; rw [World.cell?_setCell_other _ _ _ _ (by intro e; exact hj (by injection e with _ e; exact e.symm))]; exact (hX8 j).trans (Hr.out j hj)
          case measure => simp [intOf]; omega
        refine AllReadyH.cons rfl (fun K hK => ?_) AllReadyH.nil
        go_simp
        refine hK.out _ _ ?_ (fun hHeldN => ?_)
        focus ((try dsimp only); ((first | with_reducible assumption | with_reducible exact HeldB.start hLb | with_reducible exact HeldB.of (by assumption) (by assumption) | ((repeat (first | with_reducible refine HeldB.set ?_ (by first | exact Or.inl rfl | exact Or.inr (by simp only [zA, zC, zD, zN]; omega) | exact Or.inr (by omega)) | with_reducible refine HeldB.alloc ?_ _ | with_reducible refine HeldB.drew ?_)); (first | with_reducible assumption | with_reducible exact HeldB.refl hLb | with_reducible exact HeldB.of (by assumption) (by assumption) | with_reducible exact HeldB.ex (by assumption) (by assumption))))))
        clear hK K hHeld
        have hHeld := hHeldN
        clear hHeldN
        (try simp only [Act.put, List.setIfInBounds_toArray, List.set_cons_zero, List.set_cons_succ])
        refine wpAnyH_ready (rs := [1]) (by kernel_rfl) (by simp) ?_
        refine AllReadyH.cons rfl (fun K hK => ?_) AllReadyH.nil
        replace hHeld := Lib.hid hHeld
        replace hB := Lib.hid hB
        go_simp
        replace hHeld := hHeld.out
        replace hB := hB.out
        refine hK.out _ _ ?_ (fun hHeldN => ?_)
        focus ((try dsimp only); ((first | with_reducible assumption | with_reducible exact HeldB.start hLb | with_reducible exact HeldB.of (by assumption) (by assumption) | ((repeat (first | with_reducible refine HeldB.set ?_ (by first | exact Or.inl rfl | exact Or.inr (by simp only [zA, zC, zD, zN]; omega) | exact Or.inr (by omega)) | with_reducible refine HeldB.alloc ?_ _ | with_reducible refine HeldB.drew ?_)); (first | with_reducible assumption | with_reducible exact HeldB.refl hLb | with_reducible exact HeldB.of (by assumption) (by assumption) | with_reducible exact HeldB.ex (by assumption) (by assumption))))))
        clear hK K hHeld
        have hHeld := hHeldN
        clear hHeldN
        (try simp only [Act.put, List.setIfInBounds_toArray, List.set_cons_zero, List.set_cons_succ])
        refine wpAnyH_ready (rs := [4]) (by kernel_rfl) (by simp) ?_
        refine AllReadyH.cons rfl (fun K hK => ?_) AllReadyH.nil
        (apply step_app (lo := W0.heap.size) el_G one_G rfl rfl rfl rfl; (apply Ow.keep ho; (exact kf_)); (refine Rs.new [gv0 ((Sw.hedOf []).getD Sw.headZ)] (by (first | rfl | (simp only [zA, zC, zD, zN]; done) | omega)) rfl rfl (fun _ => rfl) (by omega)); omega; exact sz_; intro A1 c1 w2 ho1 hch1 hat1 hex1 hlow1)
        have hbx := hex1 (· = g1) W0 (HeldB.ch (by assumption : HeldB g1 10 W0 _)) (Nat.le_refl _)
        have hlbx := Lb.low hlow1 hgW (HeldB.lb (by assumption : HeldB g1 10 W0 _))
        have hX8 := low_keep (wr := wr) hch1 hlow1 (by (exact kf_)) hgW hgl
        have hz1 := hch1.size
        (try simp only [zA, zC, zD, zN] at hz1)
        obtain ⟨hcL, hfL⟩ := low_rules hlow1
        clear hex1 hlow1
        (try simp only [Act.put, List.setIfInBounds_toArray, List.set_cons_zero, List.set_cons_succ])
        refine hK.out _ _ ?_ (fun hHeldN => ?_)
        focus ((try dsimp only); ((first | with_reducible assumption | with_reducible exact HeldB.start hLb | with_reducible exact HeldB.of (by assumption) (by assumption) | ((repeat (first | with_reducible refine HeldB.set ?_ (by first | exact Or.inl rfl | exact Or.inr (by simp only [zA, zC, zD, zN]; omega) | exact Or.inr (by omega)) | with_reducible refine HeldB.alloc ?_ _ | with_reducible refine HeldB.drew ?_)); (first | with_reducible assumption | with_reducible exact HeldB.refl hLb | with_reducible exact HeldB.of (by assumption) (by assumption) | with_reducible exact HeldB.ex (by assumption) (by assumption))))))
        clear hK K hHeld
        have hHeld := hHeldN
        clear hHeldN
        (try simp only [Act.put, List.setIfInBounds_toArray, List.set_cons_zero, List.set_cons_succ])
        refine regT 5 27 (v := ?_) rfl rfl (by kernel_rfl) (by kernel_rfl) (by kernel_rfl) (fun _ _ _ h => h) (by rfl) ?_ (by assumption) ?_
        rotate_left
        focus (intro w hSw; (try dsimp only at hSw); go_simp; (try with_reducible rfl))
        (try simp only [Act.put, List.setIfInBounds_toArray, List.set_cons_zero, List.set_cons_succ])
        refine wpAnyH_ready (rs := [6]) (by kernel_rfl) (by simp) ?_
        refine AllReadyH.cons rfl (fun K hK => ?_) AllReadyH.nil
        have hLbx := HeldB.lb hHeld
        obtain ⟨hcx, hfx⟩ := Lb.rules hLbx
        go_simp
        refine hK.out _ _ ?_ (fun hHx => ?_)
        focus ((try dsimp only); ((first | with_reducible assumption | with_reducible exact HeldB.start hLb | with_reducible exact HeldB.of (by assumption) (by assumption) | ((repeat (first | with_reducible refine HeldB.set ?_ (by first | exact Or.inl rfl | exact Or.inr (by simp only [zA, zC, zD, zN]; omega) | exact Or.inr (by omega)) | with_reducible refine HeldB.alloc ?_ _ | with_reducible refine HeldB.drew ?_)); (first | with_reducible assumption | with_reducible exact HeldB.refl hLb | with_reducible exact HeldB.of (by assumption) (by assumption) | with_reducible exact HeldB.ex (by assumption) (by assumption))))))
        clear hK K hHeld
        (try simp only [Act.put, List.setIfInBounds_toArray, List.set_cons_zero, List.set_cons_succ])
        refine wpAnyH_done (by kernel_rfl) ?_ _
        go_wp2_with fail
        go_roundw
        case rel =>
          refine ⟨k + 1, A1, c1, by omega, by go_num, hHx, World.cell?_setCell_same _ _ _ (hcx 8 (by decide)), ?_, ?_⟩
          · rw [List.replicate_succ']; exact Ow.keep ho1 (by (exact kf_))
          · intro j hj; rw [World.cell?_setCell_other _ _ _ _ (by intro e; exact hj (by injection e with _ e; exact e.symm))]; exact (hX8 j).trans (Hr.out j hj)
        case measure => simp [intOf]; omega
      · obtain rfl : k = 2 := by omega
        have p0 := (hrest 0 (by decide)).trans q0
        have p1 := (hrest 1 (by decide)).trans q1
        have p2 := (hrest 2 (by decide)).trans q2
        have p3 := (hrest 3 (by decide)).trans q3
        have p4 := (hrest 4 (by decide)).trans q4
        have p5 := (hrest 5 (by decide)).trans q5
        have p6 := (hrest 6 (by decide)).trans q6
        have p7 := (hrest 7 (by decide)).trans q7
        have p9 := (hrest 9 (by decide)).trans q9
        clear hrest
        have hb := hB.ch
        have hLz := hB.lb.lt
        obtain ⟨hcz, hfz⟩ := Lb.rules (Lb.chk hB.ch hLw (fun e => by omega))
        clear hB
        go_wp2_with fail
        refine bodyPost_ret (v := .agg #[.slice A0 5 c0, .slice bL bLn bLc, .slice bP 5 bPc, .slice bD bDn bDc, .int .i64 (Sw.mktNew xs).clock, .slice bN bNn bNc, .slice bS bSn bSc, .slice none 0 0, .slice A' 2 c', .slice none 0 0]) (by simp [results, Try.results37, go_sem, *]) rfl ?_
        refine ⟨A0, c0, 5, bL, bLc, bLn, bP, bPc, 5, bD, bDc, bDn, bN, bNc, bNn, bS, bSc, bSn, A', c', 2, glue τm w1.heap.size (glue τ W0.heap.size (fun _ => 8)), by rw [He.out], ?_, ext_⟩
        rw [He.out]
        refine ⟨?_, ?_, ?_, by simp [Sw.gatNew], rfl, rfl⟩
        · have hT : glue τm w1.heap.size (glue τ W0.heap.size (fun _ => 8)) g1 = 7 := by unfold glue; rw [if_neg (by omega), if_pos hgW]; exact ht1
          have t1 := (t0.glueL (τ' := fun _ => 8) (k := W0.heap.size) (by omega)).glueR (k := w1.heap.size) (τ' := τm) (by omega)
          have hcw : Ch (· = g1) wx W0 := Ch.ex (by repeat (first | with_reducible exact Ch.refl _ _ | (with_reducible refine Ch.setCell ?_ ?_ _; rotate_left; (focus exact Or.inl rfl)))) hb0
          have t2 := OwT.keep t1 (KT.ch (Ch.trans hcw hb) (KT.refl _ _ _ _) (fun i hi => .inr (by rw [show i = g1 from hi, hT]; decide)))
          exact (t2.keepF (by (exact kf_))).less (by omega)
        · exact ((hoM.glueL (Nat.le_refl _)).keepF (by (exact kf_))).less (by simp)
        · exact ((OwT.fresh (τ := glue τm w1.heap.size (glue τ W0.heap.size (fun _ => 8))) (t := 8) ho (fun b h1 h2 => by unfold glue; rw [if_neg (by omega), if_neg (by omega)])).keepF (by (exact kf_))).less (by omega)
  case refine_2 =>
    rintro n l a wx ⟨hk, hHeld, hup, l0, r0, r1, r2, v0, u0, u1, u2, τ, hn0, rfl, rfl, C0, C1, C2⟩ he
    obtain rfl : l0 = true := by (cases l0 with | true => rfl | false => exact absurd he (ready_ne (i := 0) (by kernel_rfl)))
    obtain rfl : r0 = true := by (cases r0 with | true => rfl | false => exact absurd he (ready_ne (i := 2) (by kernel_rfl)))
    obtain rfl : r2 = true := by (cases r2 with | true => rfl | false => exact absurd he (ready_ne (i := 4) (by kernel_rfl)))
    obtain rfl : r1 = true := by (cases r1 with | true => rfl | false => exact absurd he (ready_ne (i := 5) (by kernel_rfl)))
    simp [cb] at hn0
  case refine_3 =>
    rintro n l a wx ⟨hk, hHeld, hup, l0, r0, r1, r2, v0, u0, u1, u2, τ, hn0, rfl, rfl, C0, C1, C2⟩ i hi
    obtain ⟨hi0, oi, ho, hdep⟩ := mem_ready.1 hi
    clear hi
    have hin : i < 7 := (Array.getElem?_eq_some_iff.1 ho).1
    rcases (show i = 0 ∨ i = 1 ∨ i = 2 ∨ i = 3 ∨ i = 4 ∨ i = 5 ∨ i = 6 by omega) with rfl | rfl | rfl | rfl | rfl | rfl | rfl
    · -- 0
      obtain rfl : l0 = false := hi0
      cases C0
      clear ho hdep
      refine wpOp_step rfl fun K hK => ?_
      go_simp
      refine hK _ _ ⟨hHeld.alloc _, hk.alloc, hHeld.alloc _, (by simp; omega), true, false, r1, r2, .slice (some ⟨wx.heap.size, 0, none⟩) 0 0, u0, u1, u2, glue τ wx.heap.size (fun _ => 6), ?_, rfl, rfl, .made _ _ _ (OwT.begun (Ow.new [] rfl rfl rfl (fun _ => rfl) (by omega) (by omega))), C1.alloc, (C2.chg _)⟩
      simp only [cb] at hn0 ⊢; simp at hn0 ⊢; omega
    · -- 1
      exact Bool.noConfusion (show true = false from hi0)
    · -- 2
      obtain rfl : r0 = false := hi0
      obtain rfl := Option.some.inj (show some _ = some oi from ho)
      have d := hdep ⟨0, .data⟩ (by simp) rfl
      obtain rfl : l0 = true := d
      clear ho hdep
      obtain ⟨Ax, cx, rfl, ht⟩ : ∃ A c, v0 = .slice A 0 c ∧ OwT encI 1 3 τ 6 wx W0.heap.size A c 0 [] := by (cases C0; exact ⟨_, _, rfl, by assumption⟩)
      clear C0
      refine wpOp_step rfl fun K hK => ?_
      apply step_app el_I one_I rfl rfl rfl rfl ht.ow (Rs.at0 hxs hk) (by omega) hup
      intro A1 c1 w2 ho1 hch1 hat1 hex1 hlow1
      rw [List.nil_append] at ho1; simp only [Nat.zero_add] at ho1
      have hbx := hex1 (· = (w.heap.size)) W0 hHeld.ch (Nat.le_refl _)
      have hlbx := Lb.low hlow1 hlt0 hHeld.lb
      simp only [Nat.zero_add]
      have hKF : KF 0 w w2 := kL ⟨hch1.size, hlow1⟩ hk (by omega)
      refine hK _ _ ⟨HeldB.of hbx hlbx, hKF, HeldB.of hbx hlbx, Nat.le_trans hup hch1.size, true, true, r1, r2, .slice Ax 0 cx, .slice A1 5 c1, u1, u2, glue τ wx.heap.size (fun _ => 6), ?_, rfl, rfl, .done _ _ _ (OwT.full ho1 ht hat1), C1.app hch1 ht.tag (by decide), (C2.chg _)⟩
      simp only [cb] at hn0 ⊢; simp at hn0 ⊢; omega
    · -- 3
      exact Bool.noConfusion (show true = false from hi0)
    · -- 4
      obtain rfl : r2 = false := hi0
      obtain rfl := Option.some.inj (show some _ = some oi from ho)
      obtain rfl : r0 = true := hdep ⟨2, .data⟩ (by simp) rfl
      clear ho hdep
      obtain ⟨A1, c1, rfl, ht⟩ : ∃ A c, u0 = .slice A 5 c ∧ OwT encI 1 3 τ 6 wx W0.heap.size A c 5 xs := by (cases C0; exact ⟨_, _, rfl, by assumption⟩)
      cases C2
      refine wpOp_step rfl fun K hK => ?_
      go_simp
      refine hK _ _ ⟨hHeld, hk, hHeld, hup, l0, true, r1, true, v0, (.slice A1 5 c1), u1, (fun u => .agg #[u, .slice bL bLn bLc, .slice bP 5 bPc, .slice bD bDn bDc, .int .i64 (Sw.mktNew xs).clock, .slice bN bNn bNc, .slice bS bSn bSc, .slice none 0 0, .slice none 0 0, .slice none 0 0]) (.slice A1 5 c1), τ, ?_, rfl, rfl, C0, C1, .done⟩
      simp only [cb] at hn0 ⊢; simp at hn0 ⊢; omega
    · -- 5
      obtain rfl : r1 = false := hi0
      cases C1
      clear ho hdep
      refine wpOp_step rfl fun K hK => ?_
      go_simp
      refine hK _ _ ⟨hHeld.alloc _, hk.alloc, hHeld.alloc _, (by simp; omega), l0, r0, true, r2, v0, u0, .pointer (some ⟨wx.heap.size, 0, none⟩), u2, glue τ wx.heap.size (fun _ => 7), ?_, rfl, rfl, C0.alloc, .done _ hup (Lb.new rfl (by kernel_rfl)) (by unfold glue; rw [if_neg (Nat.lt_irrefl _)]), C2⟩
      simp only [cb] at hn0 ⊢; simp at hn0 ⊢; omega
    · -- 6
      obtain rfl := Option.some.inj (show some _ = some oi from ho)
      obtain rfl : r1 = true := hdep ⟨5, .data⟩ (by simp) rfl
      obtain rfl : r2 = true := hdep ⟨4, .data⟩ (by simp) rfl
      obtain rfl : r0 = true := by (cases C2; rfl)
      obtain rfl : l0 = true := by (cases C0; rfl)
      simp [cb] at hn0
theorem iWldNew_c (A : Option Addr) (c n : Nat) (xs : List Int) (w : World) (hxs : RI w 0 A c n xs) : Calls Try.prog 35 #[.slice A n c] w fun E w' => ∃ F Fc Fn bL bLc bLn bP bPc bPn bD bDc bDn bN bNc bNn bS bSc bSn G Gc Gn τ, E = .returned (.agg #[.slice F Fn Fc, .slice bL bLn bLc, .slice bP bPn bPc, .slice bD bDn bDc, .int .i64 (Sw.wldNew xs).market.clock, .slice bN bNn bNc, .slice bS bSn bSc, .slice none 0 0, .slice G Gn Gc, .slice none 0 0]) ∧ WN τ w' w.heap.size F Fc Fn bL bLc bLn bP bPc bPn bD bDc bDn bN bNc bNn bS bSc bSn G Gc Gn (Sw.wldNew xs) ∧ Ex w w' := by
  by_cases gv : (Sw.monOk xs && decide (Sw.monSum xs ≤ 100000)) = true
  case neg =>
    have e : Sw.wldNew xs = Sw.worldZ := by unfold Sw.wldNew; rw [if_neg gv]
    have em : Sw.mktNew xs = Sw.mktZ := by unfold Sw.mktNew; rw [if_neg gv]
    have He := Lib.hid e; have Hm := Lib.hid em; clear e em gv
    go_enter Try.func35, Try.ntmps35
    go_wp2_with fail
    apply Calls.mono
    apply iMktNew_c
    · apply Rs.at0 hxs; (exact kf_)
    rintro E w1 ⟨bL, bLc, bLn, bP, bPc, bPn, bD, bDc, bDn, bN, bNc, bNn, bS, bSc, bSn, τm, rfl, hoM, hb⟩
    obtain rfl : bPn = 0 := by have := hoM.purses.ow.1; rw [Hm.out] at this; exact this
    have hst := xr hb; (try simp only [zA, zC, zD, zN] at hst); obtain ⟨hc, hf, hz⟩ := hst
    go_wp2_with fail
    refine bodyPost_ret (v := .agg #[.slice none 0 0, .slice none 0 0, .slice none 0 0, .slice none 0 0, .int .i64 0, .slice none 0 0, .slice none 0 0, .slice none 0 0, .slice none 0 0, .slice none 0 0]) (by simp [results, Try.results35, go_sem, *]) rfl ?_
    refine ⟨_, _, _, _, _, _, _, _, _, _, _, _, _, _, _, _, _, _, _, _, _, fun _ => 0, by rw [He.out]; rfl, ?_, ext_⟩
    rw [He.out]
    exact WN.zero
  have e : Sw.wldNew xs = ⟨xs, Sw.mktNew xs, [], [Sw.gatNew, Sw.gatNew], []⟩ := by unfold Sw.wldNew; rw [if_pos gv]
  have em : Sw.mktNew xs = ⟨[], xs, [], 0, [0, 0, 0, 0, 0], [0, 0, 0, 0, 0]⟩ := by unfold Sw.mktNew; rw [if_pos gv]
  have h5 : xs.length = 5 := monOk_len (Bool.and_eq_true_iff.1 gv).1
  have hn5 : n = 5 := by rw [hxs.1, h5]
  subst hn5
  have He := Lib.hid e; have Hm := Lib.hid em; have H5 := Lib.hid h5; clear e em gv h5
  go_enter Try.func35, Try.ntmps35
  go_wp2_with fail
  apply Calls.mono
  apply iMktNew_c
  · apply Rs.at0 hxs; (exact kf_)
  rintro E w1 ⟨bL, bLc, bLn, bP, bPc, bPn, bD, bDc, bDn, bN, bNc, bNn, bS, bSc, bSn, τm, rfl, hoM, hb⟩
  have hbM := hb
  obtain rfl : bPn = 5 := by have := hoM.purses.ow.1; rw [Hm.out] at this; exact this.trans H5.out
  have hst := xr hb; (try simp only [zA, zC, zD, zN] at hst); obtain ⟨hc, hf, hz⟩ := hst
  go_wp2_with fail
  (refine wp_name ?_; intro W0 hb0; have hst := xr hb0; (try simp only [zA, zC, zD, zN] at hst); obtain ⟨hc0, hf0, hz0⟩ := hst; have hLb : Lb W0 (w.heap.size) 10 := Lb.ex (by exact lbc_) hb0; refine wp_region_held_drew (S := fun w' => HeldB (w.heap.size) 10 W0 w') (by kernel_rfl) ?_ (fun hHeld => ?_); (focus ((try dsimp only); (first | with_reducible assumption | with_reducible exact HeldB.start hLb | with_reducible exact HeldB.of (by assumption) (by assumption) | ((repeat (first | with_reducible refine HeldB.set ?_ (by first | exact Or.inl rfl | exact Or.inr (by simp only [zA, zC, zD, zN]; omega) | exact Or.inr (by omega)) | with_reducible refine HeldB.alloc ?_ _ | with_reducible refine HeldB.drew ?_)); (first | with_reducible assumption | with_reducible exact HeldB.refl hLb | with_reducible exact HeldB.of (by assumption) (by assumption) | with_reducible exact HeldB.ex (by assumption) (by assumption)))))); refine regT 0 12 (v := ?_) rfl rfl (by kernel_rfl) (by kernel_rfl) (by kernel_rfl) (fun _ _ _ h => h) (by rfl) ?_ (by assumption) ?_; rotate_left; (focus (intro w hSw; (try dsimp only at hSw); (try (have hst := xc (HeldB.ch hSw); (try simp only [zA, zC, zD, zN] at hst); obtain ⟨hcS, hfS, hzS⟩ := hst)); go_simp; (try with_reducible rfl))); (try simp only [Act.put, List.setIfInBounds_toArray, List.set_cons_zero, List.set_cons_succ]); refine regT 2 14 (v := ?_) rfl rfl (by kernel_rfl) (by kernel_rfl) (by kernel_rfl) (fun _ _ _ h => h) (by rfl) ?_ (by assumption) ?_; rotate_left; (focus (intro w hSw; (try dsimp only at hSw); (try (have hst := xc (HeldB.ch hSw); (try simp only [zA, zC, zD, zN] at hst); obtain ⟨hcS, hfS, hzS⟩ := hst)); go_simp; (try with_reducible rfl))); (try simp only [Act.put, List.setIfInBounds_toArray, List.set_cons_zero, List.set_cons_succ]))
  have hlt0 : w.heap.size < W0.heap.size := hLb.lt
  refine wpAnyH_inv (Inv := NewWI A c xs w1.heap.size bL bLc bLn bP bPc 5 bD bDc bDn bN bNc bNn bS bSc bSn (Sw.mktNew xs).clock w W0) (k := 1) ?_ ?_ ?_ 3 _ _ _ ?_
  case refine_4 =>
    exact ⟨by (exact kf_), hHeld, Nat.le_refl _, false, false, false, undef, undef, undef, fun _ => 0, rfl, by kernel_rfl, rfl, .none _, .none _, .none _ _⟩
  case refine_1 =>
    rintro l a wx ⟨hk, hHeld, hup, r0, r1, r2, u0, u1, u2, τ, hn0, rfl, rfl, C0, C1, C2⟩
    obtain rfl : r0 = true := by cases r0 <;> first | rfl | (exfalso; revert hn0; simp [cb]; done) | (exfalso; revert hn0; simp [cb]; omega)
    obtain rfl : r1 = true := by cases r1 <;> first | rfl | (exfalso; revert hn0; simp [cb]; done) | (exfalso; revert hn0; simp [cb]; omega)
    obtain rfl : r2 = true := by cases r2 <;> first | rfl | (exfalso; revert hn0; simp [cb]; done) | (exfalso; revert hn0; simp [cb]; omega)
    obtain rfl : u2 = (fun u => .agg #[u, .slice bL bLn bLc, .slice bP 5 bPc, .slice bD bDn bDc, .int .i64 (Sw.mktNew xs).clock, .slice bN bNn bNc, .slice bS bSn bSc, .slice none 0 0, .slice none 0 0, .slice none 0 0]) u0 := by (cases C2; rfl)
    obtain ⟨A0, c0, rfl, t0⟩ : ∃ A c, u0 = .slice A 5 c ∧ OwT encI 1 3 τ 6 wx W0.heap.size A c 5 xs := by (cases C0; exact ⟨_, _, rfl, by assumption⟩)
    obtain ⟨g1, rfl, hg1, hLg1, ht1⟩ : ∃ g, u1 = .pointer (some ⟨g, 0, none⟩) ∧ W0.heap.size ≤ g ∧ Lb wx g 10 ∧ τ g = 7 := by (cases C1; exact ⟨_, rfl, by assumption, by assumption, by assumption⟩)
    clear C0 C1 C2 hn0
    refine wpAnyH_ready (rs := [5]) (by kernel_rfl) (by simp) ?_
    refine AllReadyH.cons rfl (fun K hK => ?_) ?_
    rotate_left
    focus exact AllReadyH.nil
    have hLbx := hLg1
    obtain ⟨hcx, hfx⟩ := Lb.rules hLbx
    go_simp
    refine hK.out _ _ ?_ (fun hHx => ?_)
    focus ((first | with_reducible assumption | with_reducible exact HeldB.start hLb | with_reducible exact HeldB.of (by assumption) (by assumption) | ((repeat (first | with_reducible refine HeldB.set ?_ (by first | exact Or.inl rfl | exact Or.inr (by simp only [zA, zC, zD, zN]; omega) | exact Or.inr (by omega)) | with_reducible refine HeldB.alloc ?_ _ | with_reducible refine HeldB.drew ?_)); (first | with_reducible assumption | with_reducible exact HeldB.refl hLb | with_reducible exact HeldB.of (by assumption) (by assumption) | with_reducible exact HeldB.ex (by assumption) (by assumption)))))
    have hb := hHeld.ch
    clear hK K hHeld hcx hfx hLbx
    (have hst := xc hb; (try simp only [zA, zC, zD, zN] at hst); obtain ⟨hc, hf, hz⟩ := hst)
    have hLb3 := HeldB.lb hHx
    repeat (replace hLb3 := Lb.unset hLb3)
    obtain ⟨hcb, hfb⟩ := Lb.rules hLg1
    have hbf := HeldB.ch hHx
    clear hHx
    refine wpAnyH_done (by kernel_rfl) ?_ _
    go_wp2_with fail
    (refine wp_name ?_; intro W0 hb0; have hst := xr hb0; (try simp only [zA, zC, zD, zN] at hst); obtain ⟨hc0, hf0, hz0⟩ := hst)
    have hLb : Lb W0 g1 10 := Lb.ex (by exact lbc_) hb0
    have hgW : g1 < W0.heap.size := hLb.lt
    have hLw : Lb W0 w.heap.size 10 := Lb.ex (by exact lbc_) hb0
    have q0 : W0.cell? ⟨g1, 0, none⟩ = some (.slice A0 5 c0) := by ((refine (World.cell?_of_block (a := ⟨g1, 0, none⟩) (hb0.block g1 (by simpa [World.setCell] using hLg1.lt) (fun h => h))).trans ?_); (repeat (first | (refine (World.cell?_setCell_other _ _ _ _ (ne_off ?_)).trans ?_; focus decide) | fail)); refine World.cell?_setCell_same _ _ _ (u := peek wx ⟨g1, 0, none⟩) ?_; (repeat (first | (refine (World.cell?_setCell_other _ _ _ _ (ne_off ?_)).trans ?_; focus decide) | fail)); exact hcb 0 (by decide))
    have q1 : W0.cell? ⟨g1, 1, none⟩ = some (.slice bL bLn bLc) := by ((refine (World.cell?_of_block (a := ⟨g1, 1, none⟩) (hb0.block g1 (by simpa [World.setCell] using hLg1.lt) (fun h => h))).trans ?_); (repeat (first | (refine (World.cell?_setCell_other _ _ _ _ (ne_off ?_)).trans ?_; focus decide) | fail)); refine World.cell?_setCell_same _ _ _ (u := peek wx ⟨g1, 1, none⟩) ?_; (repeat (first | (refine (World.cell?_setCell_other _ _ _ _ (ne_off ?_)).trans ?_; focus decide) | fail)); exact hcb 1 (by decide))
    have q2 : W0.cell? ⟨g1, 2, none⟩ = some (.slice bP 5 bPc) := by ((refine (World.cell?_of_block (a := ⟨g1, 2, none⟩) (hb0.block g1 (by simpa [World.setCell] using hLg1.lt) (fun h => h))).trans ?_); (repeat (first | (refine (World.cell?_setCell_other _ _ _ _ (ne_off ?_)).trans ?_; focus decide) | fail)); refine World.cell?_setCell_same _ _ _ (u := peek wx ⟨g1, 2, none⟩) ?_; (repeat (first | (refine (World.cell?_setCell_other _ _ _ _ (ne_off ?_)).trans ?_; focus decide) | fail)); exact hcb 2 (by decide))
    have q3 : W0.cell? ⟨g1, 3, none⟩ = some (.slice bD bDn bDc) := by ((refine (World.cell?_of_block (a := ⟨g1, 3, none⟩) (hb0.block g1 (by simpa [World.setCell] using hLg1.lt) (fun h => h))).trans ?_); (repeat (first | (refine (World.cell?_setCell_other _ _ _ _ (ne_off ?_)).trans ?_; focus decide) | fail)); refine World.cell?_setCell_same _ _ _ (u := peek wx ⟨g1, 3, none⟩) ?_; (repeat (first | (refine (World.cell?_setCell_other _ _ _ _ (ne_off ?_)).trans ?_; focus decide) | fail)); exact hcb 3 (by decide))
    have q4 : W0.cell? ⟨g1, 4, none⟩ = some (.int .i64 (Sw.mktNew xs).clock) := by ((refine (World.cell?_of_block (a := ⟨g1, 4, none⟩) (hb0.block g1 (by simpa [World.setCell] using hLg1.lt) (fun h => h))).trans ?_); (repeat (first | (refine (World.cell?_setCell_other _ _ _ _ (ne_off ?_)).trans ?_; focus decide) | fail)); refine World.cell?_setCell_same _ _ _ (u := peek wx ⟨g1, 4, none⟩) ?_; (repeat (first | (refine (World.cell?_setCell_other _ _ _ _ (ne_off ?_)).trans ?_; focus decide) | fail)); exact hcb 4 (by decide))
    have q5 : W0.cell? ⟨g1, 5, none⟩ = some (.slice bN bNn bNc) := by ((refine (World.cell?_of_block (a := ⟨g1, 5, none⟩) (hb0.block g1 (by simpa [World.setCell] using hLg1.lt) (fun h => h))).trans ?_); (repeat (first | (refine (World.cell?_setCell_other _ _ _ _ (ne_off ?_)).trans ?_; focus decide) | fail)); refine World.cell?_setCell_same _ _ _ (u := peek wx ⟨g1, 5, none⟩) ?_; (repeat (first | (refine (World.cell?_setCell_other _ _ _ _ (ne_off ?_)).trans ?_; focus decide) | fail)); exact hcb 5 (by decide))
    have q6 : W0.cell? ⟨g1, 6, none⟩ = some (.slice bS bSn bSc) := by ((refine (World.cell?_of_block (a := ⟨g1, 6, none⟩) (hb0.block g1 (by simpa [World.setCell] using hLg1.lt) (fun h => h))).trans ?_); (repeat (first | (refine (World.cell?_setCell_other _ _ _ _ (ne_off ?_)).trans ?_; focus decide) | fail)); refine World.cell?_setCell_same _ _ _ (u := peek wx ⟨g1, 6, none⟩) ?_; (repeat (first | (refine (World.cell?_setCell_other _ _ _ _ (ne_off ?_)).trans ?_; focus decide) | fail)); exact hcb 6 (by decide))
    have q7 : W0.cell? ⟨g1, 7, none⟩ = some (.slice none 0 0) := by ((refine (World.cell?_of_block (a := ⟨g1, 7, none⟩) (hb0.block g1 (by simpa [World.setCell] using hLg1.lt) (fun h => h))).trans ?_); (repeat (first | (refine (World.cell?_setCell_other _ _ _ _ (ne_off ?_)).trans ?_; focus decide) | fail)); refine World.cell?_setCell_same _ _ _ (u := peek wx ⟨g1, 7, none⟩) ?_; (repeat (first | (refine (World.cell?_setCell_other _ _ _ _ (ne_off ?_)).trans ?_; focus decide) | fail)); exact hcb 7 (by decide))
    have q8 : W0.cell? ⟨g1, 8, none⟩ = some (.slice none 0 0) := by ((refine (World.cell?_of_block (a := ⟨g1, 8, none⟩) (hb0.block g1 (by simpa [World.setCell] using hLg1.lt) (fun h => h))).trans ?_); (repeat (first | (refine (World.cell?_setCell_other _ _ _ _ (ne_off ?_)).trans ?_; focus decide) | fail)); refine World.cell?_setCell_same _ _ _ (u := peek wx ⟨g1, 8, none⟩) ?_; (repeat (first | (refine (World.cell?_setCell_other _ _ _ _ (ne_off ?_)).trans ?_; focus decide) | fail)); exact hcb 8 (by decide))
    have q9 : W0.cell? ⟨g1, 9, none⟩ = some (.slice none 0 0) := by ((refine (World.cell?_of_block (a := ⟨g1, 9, none⟩) (hb0.block g1 (by simpa [World.setCell] using hLg1.lt) (fun h => h))).trans ?_); (repeat (first | (refine (World.cell?_setCell_other _ _ _ _ (ne_off ?_)).trans ?_; focus decide) | fail)); refine World.cell?_setCell_same _ _ _ (u := peek wx ⟨g1, 9, none⟩) ?_; (repeat (first | (refine (World.cell?_setCell_other _ _ _ _ (ne_off ?_)).trans ?_; focus decide) | fail)); exact hcb 9 (by decide))
    go_loopw [16] (fun i wr => ∃ (k : Nat) (A' : Option Addr) (c' : Nat), k ≤ 2 ∧ i = .int .i64 k ∧ HeldB g1 10 W0 wr ∧ wr.cell? ⟨g1, 8, none⟩ = some (.slice A' k c') ∧ OwGV wr W0.heap.size A' c' k (List.replicate k (gv0 ((Sw.hedOf []).getD Sw.headZ))) ∧ (∀ j, j ≠ 8 → wr.cell? ⟨g1, j, none⟩ = W0.cell? ⟨g1, j, none⟩)) (fun i _ => 2 - (intOf i).toNat)
    case atStart => exact ⟨0, none, 0, by omega, rfl, HeldB.refl hLb, q8, Ow.nil _ _, fun _ _ => rfl⟩
    case round =>
      obtain ⟨k, A', c', hk2, rfl, hB, hq, ho, hrest⟩ := hrel
      have hgl : g1 < wr.heap.size := hB.lb.lt
      have hszW : W0.heap.size ≤ wr.heap.size := hB.ch.size
      by_cases hlt : k < 2
      · have Hr := Lib.hid hrest; clear hrest
        go_wp2_with fail
        refine wp_region_held_drew (S := fun w' => HeldB g1 10 W0 w') (by kernel_rfl) ?_ (fun hHeld => ?_)
        focus ((try dsimp only); ((first | with_reducible assumption | with_reducible exact HeldB.start hLb | with_reducible exact HeldB.of (by assumption) (by assumption) | ((repeat (first | with_reducible refine HeldB.set ?_ (by first | exact Or.inl rfl | exact Or.inr (by simp only [zA, zC, zD, zN]; omega) | exact Or.inr (by omega)) | with_reducible refine HeldB.alloc ?_ _ | with_reducible refine HeldB.drew ?_)); (first | with_reducible assumption | with_reducible exact HeldB.refl hLb | with_reducible exact HeldB.of (by assumption) (by assumption) | with_reducible exact HeldB.ex (by assumption) (by assumption))))))
        refine regT 0 18 (v := ?_) rfl rfl (by kernel_rfl) (by kernel_rfl) (by kernel_rfl) (fun _ _ _ h => h) (by rfl) ?_ (by assumption) ?_
        rotate_left
        focus (intro w hSw; (try dsimp only at hSw); go_simp; (try with_reducible rfl))
        (try simp only [Act.put, List.setIfInBounds_toArray, List.set_cons_zero, List.set_cons_succ])
        refine wpAnyH_ready (rs := [1, 2]) (by kernel_rfl) (by simp) ?_
        refine AllReadyH.cons rfl (fun K hK => ?_) ?_
        · replace hHeld := Lib.hid hHeld
          replace hB := Lib.hid hB
          go_simp
          replace hHeld := hHeld.out
          replace hB := hB.out
          refine hK.out _ _ ?_ (fun hHeldN => ?_)
          focus ((try dsimp only); ((first | with_reducible assumption | with_reducible exact HeldB.start hLb | with_reducible exact HeldB.of (by assumption) (by assumption) | ((repeat (first | with_reducible refine HeldB.set ?_ (by first | exact Or.inl rfl | exact Or.inr (by simp only [zA, zC, zD, zN]; omega) | exact Or.inr (by omega)) | with_reducible refine HeldB.alloc ?_ _ | with_reducible refine HeldB.drew ?_)); (first | with_reducible assumption | with_reducible exact HeldB.refl hLb | with_reducible exact HeldB.of (by assumption) (by assumption) | with_reducible exact HeldB.ex (by assumption) (by assumption))))))
          clear hK K hHeld
          have hHeld := hHeldN
          clear hHeldN
          (try simp only [Act.put, List.setIfInBounds_toArray, List.set_cons_zero, List.set_cons_succ])
          refine wpAnyH_ready (rs := [2]) (by kernel_rfl) (by simp) ?_
          refine AllReadyH.cons rfl (fun K hK => ?_) AllReadyH.nil
          go_simp
          (go_at_call 39; refine (iGatNew_c _).mono ?_; rintro E w1 ⟨rfl, hb⟩; have hst := xr hb; (try simp only [zA, zC, zD, zN] at hst); obtain ⟨hc, hf, hz⟩ := hst)
          (try go_wp2_with fail)
          refine hK.out _ _ ?_ (fun hHeldN => ?_)
          focus ((try dsimp only); ((first | with_reducible assumption | with_reducible exact HeldB.start hLb | with_reducible exact HeldB.of (by assumption) (by assumption) | ((repeat (first | with_reducible refine HeldB.set ?_ (by first | exact Or.inl rfl | exact Or.inr (by simp only [zA, zC, zD, zN]; omega) | exact Or.inr (by omega)) | with_reducible refine HeldB.alloc ?_ _ | with_reducible refine HeldB.drew ?_)); (first | with_reducible assumption | with_reducible exact HeldB.refl hLb | with_reducible exact HeldB.of (by assumption) (by assumption) | with_reducible exact HeldB.ex (by assumption) (by assumption))))))
          clear hK K hHeld
          have hHeld := hHeldN
          clear hHeldN
          (try simp only [Act.put, List.setIfInBounds_toArray, List.set_cons_zero, List.set_cons_succ])
          refine wpAnyH_ready (rs := [3]) (by kernel_rfl) (by simp) ?_
          refine AllReadyH.cons rfl (fun K hK => ?_) AllReadyH.nil
          go_simp
          refine hK.out _ _ ?_ (fun hHeldN => ?_)
          focus ((try dsimp only); ((first | with_reducible assumption | with_reducible exact HeldB.start hLb | with_reducible exact HeldB.of (by assumption) (by assumption) | ((repeat (first | with_reducible refine HeldB.set ?_ (by first | exact Or.inl rfl | exact Or.inr (by simp only [zA, zC, zD, zN]; omega) | exact Or.inr (by omega)) | with_reducible refine HeldB.alloc ?_ _ | with_reducible refine HeldB.drew ?_)); (first | with_reducible assumption | with_reducible exact HeldB.refl hLb | with_reducible exact HeldB.of (by assumption) (by assumption) | with_reducible exact HeldB.ex (by assumption) (by assumption))))))
          clear hK K hHeld
          have hHeld := hHeldN
          clear hHeldN
          (try simp only [Act.put, List.setIfInBounds_toArray, List.set_cons_zero, List.set_cons_succ])
          refine wpAnyH_ready (rs := [4]) (by kernel_rfl) (by simp) ?_
          refine AllReadyH.cons rfl (fun K hK => ?_) AllReadyH.nil
          (apply step_app (lo := W0.heap.size) el_G one_G rfl rfl rfl rfl; (apply Ow.keep ho; (exact kf_)); (refine Rs.new [gv0 ((Sw.hedOf []).getD Sw.headZ)] (by (first | rfl | (simp only [zA, zC, zD, zN]; done) | omega)) rfl rfl (fun _ => rfl) (by omega)); omega; exact sz_; intro A1 c1 w2 ho1 hch1 hat1 hex1 hlow1)
          have hbx := hex1 (· = g1) W0 (HeldB.ch (by assumption : HeldB g1 10 W0 _)) (Nat.le_refl _)
          have hlbx := Lb.low hlow1 hgW (HeldB.lb (by assumption : HeldB g1 10 W0 _))
          have hX8 := low_keep (wr := wr) hch1 hlow1 (by (exact kf_)) hgW hgl
          have hz1 := hch1.size
          (try simp only [zA, zC, zD, zN] at hz1)
          obtain ⟨hcL, hfL⟩ := low_rules hlow1
          clear hex1 hlow1
          (try simp only [Act.put, List.setIfInBounds_toArray, List.set_cons_zero, List.set_cons_succ])
          refine hK.out _ _ ?_ (fun hHeldN => ?_)
          focus ((try dsimp only); ((first | with_reducible assumption | with_reducible exact HeldB.start hLb | with_reducible exact HeldB.of (by assumption) (by assumption) | ((repeat (first | with_reducible refine HeldB.set ?_ (by first | exact Or.inl rfl | exact Or.inr (by simp only [zA, zC, zD, zN]; omega) | exact Or.inr (by omega)) | with_reducible refine HeldB.alloc ?_ _ | with_reducible refine HeldB.drew ?_)); (first | with_reducible assumption | with_reducible exact HeldB.refl hLb | with_reducible exact HeldB.of (by assumption) (by assumption) | with_reducible exact HeldB.ex (by assumption) (by assumption))))))
          clear hK K hHeld
          have hHeld := hHeldN
          clear hHeldN
          (try simp only [Act.put, List.setIfInBounds_toArray, List.set_cons_zero, List.set_cons_succ])
          refine regT 5 23 (v := ?_) rfl rfl (by kernel_rfl) (by kernel_rfl) (by kernel_rfl) (fun _ _ _ h => h) (by rfl) ?_ (by assumption) ?_
          rotate_left
          focus (intro w hSw; (try dsimp only at hSw); go_simp; (try with_reducible rfl))
          (try simp only [Act.put, List.setIfInBounds_toArray, List.set_cons_zero, List.set_cons_succ])
          refine wpAnyH_ready (rs := [6]) (by kernel_rfl) (by simp) ?_
          refine AllReadyH.cons rfl (fun K hK => ?_) AllReadyH.nil
          have hLbx := HeldB.lb hHeld
          obtain ⟨hcx, hfx⟩ := Lb.rules hLbx
          go_simp
          refine hK.out _ _ ?_ (fun hHx => ?_)
          focus ((try dsimp only); ((first | with_reducible assumption | with_reducible exact HeldB.start hLb | with_reducible exact HeldB.of (by assumption) (by assumption) | ((repeat (first | with_reducible refine HeldB.set ?_ (by first | exact Or.inl rfl | exact Or.inr (by simp only [zA, zC, zD, zN]; omega) | exact Or.inr (by omega)) | with_reducible refine HeldB.alloc ?_ _ | with_reducible refine HeldB.drew ?_)); (first | with_reducible assumption | with_reducible exact HeldB.refl hLb | with_reducible exact HeldB.of (by assumption) (by assumption) | with_reducible exact HeldB.ex (by assumption) (by assumption))))))
          clear hK K hHeld
          (try simp only [Act.put, List.setIfInBounds_toArray, List.set_cons_zero, List.set_cons_succ])
          refine wpAnyH_done (by kernel_rfl) ?_ _
          go_wp2_with fail
          go_roundw
          case rel =>
            refine ⟨k + 1, A1, c1, by omega, by go_num, hHx, World.cell?_setCell_same _ _ _ (hcx 8 (by decide)), ?_, ?_⟩
            · rw [List.replicate_succ']; exact Ow.keep ho1 (by (exact kf_))
            · intro j hj; rw [World.cell?_setCell_other _ _ _ _ (by intro e; exact hj (by injection e with _ e; exact e.symm))]; exact (hX8 j).trans (Hr.out j hj)
          case measure => simp [intOf]; omega
        refine AllReadyH.cons rfl (fun K hK => ?_) AllReadyH.nil
        go_simp
        (go_at_call 39; refine (iGatNew_c _).mono ?_; rintro E w1 ⟨rfl, hb⟩; have hst := xr hb; (try simp only [zA, zC, zD, zN] at hst); obtain ⟨hc, hf, hz⟩ := hst)
        (try go_wp2_with fail)
        refine hK.out _ _ ?_ (fun hHeldN => ?_)
        focus ((try dsimp only); ((first | with_reducible assumption | with_reducible exact HeldB.start hLb | with_reducible exact HeldB.of (by assumption) (by assumption) | ((repeat (first | with_reducible refine HeldB.set ?_ (by first | exact Or.inl rfl | exact Or.inr (by simp only [zA, zC, zD, zN]; omega) | exact Or.inr (by omega)) | with_reducible refine HeldB.alloc ?_ _ | with_reducible refine HeldB.drew ?_)); (first | with_reducible assumption | with_reducible exact HeldB.refl hLb | with_reducible exact HeldB.of (by assumption) (by assumption) | with_reducible exact HeldB.ex (by assumption) (by assumption))))))
        clear hK K hHeld
        have hHeld := hHeldN
        clear hHeldN
        (try simp only [Act.put, List.setIfInBounds_toArray, List.set_cons_zero, List.set_cons_succ])
        refine wpAnyH_ready (rs := [1, 3]) (by kernel_rfl) (by simp) ?_
        refine AllReadyH.cons rfl (fun K hK => ?_) ?_
        · replace hHeld := Lib.hid hHeld
          replace hB := Lib.hid hB
          go_simp
          replace hHeld := hHeld.out
          replace hB := hB.out
          refine hK.out _ _ ?_ (fun hHeldN => ?_)
          focus ((try dsimp only); ((first | with_reducible assumption | with_reducible exact HeldB.start hLb | with_reducible exact HeldB.of (by assumption) (by assumption) | ((repeat (first | with_reducible refine HeldB.set ?_ (by first | exact Or.inl rfl | exact Or.inr (by simp only [zA, zC, zD, zN]; omega) | exact Or.inr (by omega)) | with_reducible refine HeldB.alloc ?_ _ | with_reducible refine HeldB.drew ?_)); (first | with_reducible assumption | with_reducible exact HeldB.refl hLb | with_reducible exact HeldB.of (by assumption) (by assumption) | with_reducible exact HeldB.ex (by assumption) (by assumption))))))
          clear hK K hHeld
          have hHeld := hHeldN
          clear hHeldN
          (try simp only [Act.put, List.setIfInBounds_toArray, List.set_cons_zero, List.set_cons_succ])
          refine wpAnyH_ready (rs := [3]) (by kernel_rfl) (by simp) ?_
          refine AllReadyH.cons rfl (fun K hK => ?_) AllReadyH.nil
          go_simp
          refine hK.out _ _ ?_ (fun hHeldN => ?_)
          focus ((try dsimp only); ((first | with_reducible assumption | with_reducible exact HeldB.start hLb | with_reducible exact HeldB.of (by assumption) (by assumption) | ((repeat (first | with_reducible refine HeldB.set ?_ (by first | exact Or.inl rfl | exact Or.inr (by simp only [zA, zC, zD, zN]; omega) | exact Or.inr (by omega)) | with_reducible refine HeldB.alloc ?_ _ | with_reducible refine HeldB.drew ?_)); (first | with_reducible assumption | with_reducible exact HeldB.refl hLb | with_reducible exact HeldB.of (by assumption) (by assumption) | with_reducible exact HeldB.ex (by assumption) (by assumption))))))
          clear hK K hHeld
          have hHeld := hHeldN
          clear hHeldN
          (try simp only [Act.put, List.setIfInBounds_toArray, List.set_cons_zero, List.set_cons_succ])
          refine wpAnyH_ready (rs := [4]) (by kernel_rfl) (by simp) ?_
          refine AllReadyH.cons rfl (fun K hK => ?_) AllReadyH.nil
          (apply step_app (lo := W0.heap.size) el_G one_G rfl rfl rfl rfl; (apply Ow.keep ho; (exact kf_)); (refine Rs.new [gv0 ((Sw.hedOf []).getD Sw.headZ)] (by (first | rfl | (simp only [zA, zC, zD, zN]; done) | omega)) rfl rfl (fun _ => rfl) (by omega)); omega; exact sz_; intro A1 c1 w2 ho1 hch1 hat1 hex1 hlow1)
          have hbx := hex1 (· = g1) W0 (HeldB.ch (by assumption : HeldB g1 10 W0 _)) (Nat.le_refl _)
          have hlbx := Lb.low hlow1 hgW (HeldB.lb (by assumption : HeldB g1 10 W0 _))
          have hX8 := low_keep (wr := wr) hch1 hlow1 (by (exact kf_)) hgW hgl
          have hz1 := hch1.size
          (try simp only [zA, zC, zD, zN] at hz1)
          obtain ⟨hcL, hfL⟩ := low_rules hlow1
          clear hex1 hlow1
          (try simp only [Act.put, List.setIfInBounds_toArray, List.set_cons_zero, List.set_cons_succ])
          refine hK.out _ _ ?_ (fun hHeldN => ?_)
          focus ((try dsimp only); ((first | with_reducible assumption | with_reducible exact HeldB.start hLb | with_reducible exact HeldB.of (by assumption) (by assumption) | ((repeat (first | with_reducible refine HeldB.set ?_ (by first | exact Or.inl rfl | exact Or.inr (by simp only [zA, zC, zD, zN]; omega) | exact Or.inr (by omega)) | with_reducible refine HeldB.alloc ?_ _ | with_reducible refine HeldB.drew ?_)); (first | with_reducible assumption | with_reducible exact HeldB.refl hLb | with_reducible exact HeldB.of (by assumption) (by assumption) | with_reducible exact HeldB.ex (by assumption) (by assumption))))))
          clear hK K hHeld
          have hHeld := hHeldN
          clear hHeldN
          (try simp only [Act.put, List.setIfInBounds_toArray, List.set_cons_zero, List.set_cons_succ])
          refine regT 5 23 (v := ?_) rfl rfl (by kernel_rfl) (by kernel_rfl) (by kernel_rfl) (fun _ _ _ h => h) (by rfl) ?_ (by assumption) ?_
          rotate_left
          focus (intro w hSw; (try dsimp only at hSw); go_simp; (try with_reducible rfl))
          (try simp only [Act.put, List.setIfInBounds_toArray, List.set_cons_zero, List.set_cons_succ])
          refine wpAnyH_ready (rs := [6]) (by kernel_rfl) (by simp) ?_
          refine AllReadyH.cons rfl (fun K hK => ?_) AllReadyH.nil
          have hLbx := HeldB.lb hHeld
          obtain ⟨hcx, hfx⟩ := Lb.rules hLbx
          go_simp
          refine hK.out _ _ ?_ (fun hHx => ?_)
          focus ((try dsimp only); ((first | with_reducible assumption | with_reducible exact HeldB.start hLb | with_reducible exact HeldB.of (by assumption) (by assumption) | ((repeat (first | with_reducible refine HeldB.set ?_ (by first | exact Or.inl rfl | exact Or.inr (by simp only [zA, zC, zD, zN]; omega) | exact Or.inr (by omega)) | with_reducible refine HeldB.alloc ?_ _ | with_reducible refine HeldB.drew ?_)); (first | with_reducible assumption | with_reducible exact HeldB.refl hLb | with_reducible exact HeldB.of (by assumption) (by assumption) | with_reducible exact HeldB.ex (by assumption) (by assumption))))))
          clear hK K hHeld
          (try simp only [Act.put, List.setIfInBounds_toArray, List.set_cons_zero, List.set_cons_succ])
          refine wpAnyH_done (by kernel_rfl) ?_ _
          go_wp2_with fail
          go_roundw
          case rel =>
            refine ⟨k + 1, A1, c1, by omega, by go_num, hHx, World.cell?_setCell_same _ _ _ (hcx 8 (by decide)), ?_, ?_⟩
            · rw [List.replicate_succ']; exact Ow.keep ho1 (by (exact kf_))
            · intro j hj; rw [World.cell?_setCell_other _ _ _ _ (by intro e; exact hj (by injection e with _ e; exact e.symm))]; exact (hX8 j).trans (Hr.out j hj)
          case measure => simp [intOf]; omega
        refine AllReadyH.cons rfl (fun K hK => ?_) AllReadyH.nil
        go_simp
        refine hK.out _ _ ?_ (fun hHeldN => ?_)
        focus ((try dsimp only); ((first | with_reducible assumption | with_reducible exact HeldB.start hLb | with_reducible exact HeldB.of (by assumption) (by assumption) | ((repeat (first | with_reducible refine HeldB.set ?_ (by first | exact Or.inl rfl | exact Or.inr (by simp only [zA, zC, zD, zN]; omega) | exact Or.inr (by omega)) | with_reducible refine HeldB.alloc ?_ _ | with_reducible refine HeldB.drew ?_)); (first | with_reducible assumption | with_reducible exact HeldB.refl hLb | with_reducible exact HeldB.of (by assumption) (by assumption) | with_reducible exact HeldB.ex (by assumption) (by assumption))))))
        clear hK K hHeld
        have hHeld := hHeldN
        clear hHeldN
        (try simp only [Act.put, List.setIfInBounds_toArray, List.set_cons_zero, List.set_cons_succ])
        refine wpAnyH_ready (rs := [1]) (by kernel_rfl) (by simp) ?_
        refine AllReadyH.cons rfl (fun K hK => ?_) AllReadyH.nil
        replace hHeld := Lib.hid hHeld
        replace hB := Lib.hid hB
        go_simp
        replace hHeld := hHeld.out
        replace hB := hB.out
        refine hK.out _ _ ?_ (fun hHeldN => ?_)
        focus ((try dsimp only); ((first | with_reducible assumption | with_reducible exact HeldB.start hLb | with_reducible exact HeldB.of (by assumption) (by assumption) | ((repeat (first | with_reducible refine HeldB.set ?_ (by first | exact Or.inl rfl | exact Or.inr (by simp only [zA, zC, zD, zN]; omega) | exact Or.inr (by omega)) | with_reducible refine HeldB.alloc ?_ _ | with_reducible refine HeldB.drew ?_)); (first | with_reducible assumption | with_reducible exact HeldB.refl hLb | with_reducible exact HeldB.of (by assumption) (by assumption) | with_reducible exact HeldB.ex (by assumption) (by assumption))))))
        clear hK K hHeld
        have hHeld := hHeldN
        clear hHeldN
        (try simp only [Act.put, List.setIfInBounds_toArray, List.set_cons_zero, List.set_cons_succ])
        refine wpAnyH_ready (rs := [4]) (by kernel_rfl) (by simp) ?_
        refine AllReadyH.cons rfl (fun K hK => ?_) AllReadyH.nil
        (apply step_app (lo := W0.heap.size) el_G one_G rfl rfl rfl rfl; (apply Ow.keep ho; (exact kf_)); (refine Rs.new [gv0 ((Sw.hedOf []).getD Sw.headZ)] (by (first | rfl | (simp only [zA, zC, zD, zN]; done) | omega)) rfl rfl (fun _ => rfl) (by omega)); omega; exact sz_; intro A1 c1 w2 ho1 hch1 hat1 hex1 hlow1)
        have hbx := hex1 (· = g1) W0 (HeldB.ch (by assumption : HeldB g1 10 W0 _)) (Nat.le_refl _)
        have hlbx := Lb.low hlow1 hgW (HeldB.lb (by assumption : HeldB g1 10 W0 _))
        have hX8 := low_keep (wr := wr) hch1 hlow1 (by (exact kf_)) hgW hgl
        have hz1 := hch1.size
        (try simp only [zA, zC, zD, zN] at hz1)
        obtain ⟨hcL, hfL⟩ := low_rules hlow1
        clear hex1 hlow1
        (try simp only [Act.put, List.setIfInBounds_toArray, List.set_cons_zero, List.set_cons_succ])
        refine hK.out _ _ ?_ (fun hHeldN => ?_)
        focus ((try dsimp only); ((first | with_reducible assumption | with_reducible exact HeldB.start hLb | with_reducible exact HeldB.of (by assumption) (by assumption) | ((repeat (first | with_reducible refine HeldB.set ?_ (by first | exact Or.inl rfl | exact Or.inr (by simp only [zA, zC, zD, zN]; omega) | exact Or.inr (by omega)) | with_reducible refine HeldB.alloc ?_ _ | with_reducible refine HeldB.drew ?_)); (first | with_reducible assumption | with_reducible exact HeldB.refl hLb | with_reducible exact HeldB.of (by assumption) (by assumption) | with_reducible exact HeldB.ex (by assumption) (by assumption))))))
        clear hK K hHeld
        have hHeld := hHeldN
        clear hHeldN
        (try simp only [Act.put, List.setIfInBounds_toArray, List.set_cons_zero, List.set_cons_succ])
        refine regT 5 23 (v := ?_) rfl rfl (by kernel_rfl) (by kernel_rfl) (by kernel_rfl) (fun _ _ _ h => h) (by rfl) ?_ (by assumption) ?_
        rotate_left
        focus (intro w hSw; (try dsimp only at hSw); go_simp; (try with_reducible rfl))
        (try simp only [Act.put, List.setIfInBounds_toArray, List.set_cons_zero, List.set_cons_succ])
        refine wpAnyH_ready (rs := [6]) (by kernel_rfl) (by simp) ?_
        refine AllReadyH.cons rfl (fun K hK => ?_) AllReadyH.nil
        have hLbx := HeldB.lb hHeld
        obtain ⟨hcx, hfx⟩ := Lb.rules hLbx
        go_simp
        refine hK.out _ _ ?_ (fun hHx => ?_)
        focus ((try dsimp only); ((first | with_reducible assumption | with_reducible exact HeldB.start hLb | with_reducible exact HeldB.of (by assumption) (by assumption) | ((repeat (first | with_reducible refine HeldB.set ?_ (by first | exact Or.inl rfl | exact Or.inr (by simp only [zA, zC, zD, zN]; omega) | exact Or.inr (by omega)) | with_reducible refine HeldB.alloc ?_ _ | with_reducible refine HeldB.drew ?_)); (first | with_reducible assumption | with_reducible exact HeldB.refl hLb | with_reducible exact HeldB.of (by assumption) (by assumption) | with_reducible exact HeldB.ex (by assumption) (by assumption))))))
        clear hK K hHeld
        (try simp only [Act.put, List.setIfInBounds_toArray, List.set_cons_zero, List.set_cons_succ])
        refine wpAnyH_done (by kernel_rfl) ?_ _
        go_wp2_with fail
        go_roundw
        case rel =>
          refine ⟨k + 1, A1, c1, by omega, by go_num, hHx, World.cell?_setCell_same _ _ _ (hcx 8 (by decide)), ?_, ?_⟩
          · rw [List.replicate_succ']; exact Ow.keep ho1 (by (exact kf_))
          · intro j hj; rw [World.cell?_setCell_other _ _ _ _ (by intro e; exact hj (by injection e with _ e; exact e.symm))]; exact (hX8 j).trans (Hr.out j hj)
        case measure => simp [intOf]; omega
      · obtain rfl : k = 2 := by omega
        have p0 := (hrest 0 (by decide)).trans q0
        have p1 := (hrest 1 (by decide)).trans q1
        have p2 := (hrest 2 (by decide)).trans q2
        have p3 := (hrest 3 (by decide)).trans q3
        have p4 := (hrest 4 (by decide)).trans q4
        have p5 := (hrest 5 (by decide)).trans q5
        have p6 := (hrest 6 (by decide)).trans q6
        have p7 := (hrest 7 (by decide)).trans q7
        have p9 := (hrest 9 (by decide)).trans q9
        clear hrest
        have hb := hB.ch
        have hLz := hB.lb.lt
        obtain ⟨hcz, hfz⟩ := Lb.rules (Lb.chk hB.ch hLw (fun e => by omega))
        clear hB
        go_wp2_with fail
        refine bodyPost_ret (v := .agg #[.slice A0 5 c0, .slice bL bLn bLc, .slice bP 5 bPc, .slice bD bDn bDc, .int .i64 (Sw.mktNew xs).clock, .slice bN bNn bNc, .slice bS bSn bSc, .slice none 0 0, .slice A' 2 c', .slice none 0 0]) (by simp [results, Try.results35, go_sem, *]) rfl ?_
        refine ⟨A0, c0, 5, bL, bLc, bLn, bP, bPc, 5, bD, bDc, bDn, bN, bNc, bNn, bS, bSc, bSn, A', c', 2, glue τm w1.heap.size (glue τ W0.heap.size (fun _ => 8)), by rw [He.out], ?_, ext_⟩
        rw [He.out]
        refine ⟨?_, ?_, ?_, by simp [Sw.gatNew], rfl, rfl⟩
        · have hT : glue τm w1.heap.size (glue τ W0.heap.size (fun _ => 8)) g1 = 7 := by unfold glue; rw [if_neg (by omega), if_pos hgW]; exact ht1
          have t1 := (t0.glueL (τ' := fun _ => 8) (k := W0.heap.size) (by omega)).glueR (k := w1.heap.size) (τ' := τm) (by omega)
          have hcw : Ch (· = g1) wx W0 := Ch.ex (by repeat (first | with_reducible exact Ch.refl _ _ | (with_reducible refine Ch.setCell ?_ ?_ _; rotate_left; (focus exact Or.inl rfl)))) hb0
          have t2 := OwT.keep t1 (KT.ch (Ch.trans hcw hb) (KT.refl _ _ _ _) (fun i hi => .inr (by rw [show i = g1 from hi, hT]; decide)))
          exact (t2.keepF (by (exact kf_))).less (by omega)
        · exact ((hoM.glueL (Nat.le_refl _)).keepF (by (exact kf_))).less (by simp)
        · exact ((OwT.fresh (τ := glue τm w1.heap.size (glue τ W0.heap.size (fun _ => 8))) (t := 8) ho (fun b h1 h2 => by unfold glue; rw [if_neg (by omega), if_neg (by omega)])).keepF (by (exact kf_))).less (by omega)
  case refine_2 =>
    rintro n l a wx ⟨hk, hHeld, hup, r0, r1, r2, u0, u1, u2, τ, hn0, rfl, rfl, C0, C1, C2⟩ he
    obtain rfl : r0 = true := by (cases r0 with | true => rfl | false => exact absurd he (ready_ne (i := 1) (by kernel_rfl)))
    obtain rfl : r2 = true := by (cases r2 with | true => rfl | false => exact absurd he (ready_ne (i := 3) (by kernel_rfl)))
    obtain rfl : r1 = true := by (cases r1 with | true => rfl | false => exact absurd he (ready_ne (i := 4) (by kernel_rfl)))
    simp [cb] at hn0
  case refine_3 =>
    rintro n l a wx ⟨hk, hHeld, hup, r0, r1, r2, u0, u1, u2, τ, hn0, rfl, rfl, C0, C1, C2⟩ i hi
    obtain ⟨hi0, oi, ho, hdep⟩ := mem_ready.1 hi
    clear hi
    have hin : i < 6 := (Array.getElem?_eq_some_iff.1 ho).1
    rcases (show i = 0 ∨ i = 1 ∨ i = 2 ∨ i = 3 ∨ i = 4 ∨ i = 5 by omega) with rfl | rfl | rfl | rfl | rfl | rfl
    · -- 0
      exact Bool.noConfusion (show true = false from hi0)
    · -- 1
      obtain rfl : r0 = false := hi0
      cases C0
      clear ho hdep
      refine wpOp_step rfl fun K hK => ?_
      replace hK := Lib.hid hK
      go_simp
      (go_at_call 102; apply Calls.mono; apply iCloneInts_c; (exact Rs.at0 hxs hk); (try omega); rintro E w2 ⟨A1, c1, rfl, ho1, hb1⟩)
      try go_wp2_with fail
      refine hK.out _ _ ⟨hHeld.ex hb1, kE hb1 hk, hHeld.ex hb1, (by have := hb1.size; omega), true, r1, r2, .slice A1 5 c1, u1, u2, glue τ wx.heap.size (fun _ => 6), ?_, rfl, rfl, .done _ _ (OwT.newT ho1 (Nat.le_refl _) hup), C1.ex hb1, (C2.chg _)⟩
      simp only [cb] at hn0 ⊢; simp at hn0 ⊢; omega
    · -- 2
      exact Bool.noConfusion (show true = false from hi0)
    · -- 3
      obtain rfl : r2 = false := hi0
      obtain rfl := Option.some.inj (show some _ = some oi from ho)
      obtain rfl : r0 = true := hdep ⟨1, .data⟩ (by simp) rfl
      clear ho hdep
      obtain ⟨A1, c1, rfl, ht⟩ : ∃ A c, u0 = .slice A 5 c ∧ OwT encI 1 3 τ 6 wx W0.heap.size A c 5 xs := by (cases C0; exact ⟨_, _, rfl, by assumption⟩)
      cases C2
      refine wpOp_step rfl fun K hK => ?_
      go_simp
      refine hK _ _ ⟨hHeld, hk, hHeld, hup, true, r1, true, (.slice A1 5 c1), u1, (fun u => .agg #[u, .slice bL bLn bLc, .slice bP 5 bPc, .slice bD bDn bDc, .int .i64 (Sw.mktNew xs).clock, .slice bN bNn bNc, .slice bS bSn bSc, .slice none 0 0, .slice none 0 0, .slice none 0 0]) (.slice A1 5 c1), τ, ?_, rfl, rfl, C0, C1, .done⟩
      simp only [cb] at hn0 ⊢; simp at hn0 ⊢; omega
    · -- 4
      obtain rfl : r1 = false := hi0
      cases C1
      clear ho hdep
      refine wpOp_step rfl fun K hK => ?_
      go_simp
      refine hK _ _ ⟨hHeld.alloc _, hk.alloc, hHeld.alloc _, (by simp; omega), r0, true, r2, u0, .pointer (some ⟨wx.heap.size, 0, none⟩), u2, glue τ wx.heap.size (fun _ => 7), ?_, rfl, rfl, C0.alloc, .done _ hup (Lb.new rfl (by kernel_rfl)) (by unfold glue; rw [if_neg (Nat.lt_irrefl _)]), C2⟩
      simp only [cb] at hn0 ⊢; simp at hn0 ⊢; omega
    · -- 5
      obtain rfl := Option.some.inj (show some _ = some oi from ho)
      obtain rfl : r1 = true := hdep ⟨4, .data⟩ (by simp) rfl
      obtain rfl : r2 = true := hdep ⟨3, .data⟩ (by simp) rfl
      obtain rfl : r0 = true := by (cases C2; rfl)
      simp [cb] at hn0
end Go.Proofs.Ytncoiknpkebgoaa

namespace Go.Proofs.Ytncoiknpkebgoaa
set_option maxRecDepth 100000
set_option linter.unusedSimpArgs false
set_option linter.unusedVariables false
open Go.RowKit Go
set_option maxHeartbeats 400000

/-- n numbers from k on. -/
def marks : Int → Nat → List Int
  | _, 0 => []
  | k, n + 1 => k :: marks (k + 1) n
theorem marks_len : ∀ (n : Nat) (k : Int), (marks k n).length = n
  | 0, _ => rfl
  | n + 1, k => by rw [marks, List.length_cons, marks_len n]
theorem marks_at : ∀ (n j : Nat) (k : Int), j < n → (marks k n)[j]? = some (k + j)
  | 0, j, k, h => absurd h (Nat.not_lt_zero _)
  | n + 1, 0, k, _ => by simp [marks]
  | n + 1, j + 1, k, h => by
    rw [marks, List.getElem?_cons_succ, marks_at n j (k + 1) (by omega)]
    congr 1; omega
theorem marks_succ : ∀ (n : Nat) (k : Int), marks k (n + 1) = marks k n ++ [k + n]
  | 0, k => by simp [marks]
  | n + 1, k => by
    rw [marks, marks_succ n (k + 1)]
    simp only [marks, List.cons_append, List.cons.injEq, true_and]
    congr 2; omega
theorem marks_set {xs : List Int} {k : Int} {j n : Nat} (hn : n = xs.length) (hj : j < n) : (marks k j ++ xs.drop j).set j (k + j) = marks k (j + 1) ++ xs.drop (j + 1) := by
  rw [List.set_append_right _ _ (by rw [marks_len]; omega), marks_len, Nat.sub_self, marks_succ, List.append_assoc]
  congr 1
  rw [List.drop_eq_getElem_cons (by omega), List.set_cons_zero]
  rfl
theorem marks_old {xs : List Int} {k : Int} {j n : Nat} (hn : n = xs.length) (hj : j < n) : ∃ y, (marks k j ++ xs.drop j)[j]? = some y := by
  refine ⟨xs[j]'(by omega), ?_⟩
  rw [List.getElem?_append_right (by rw [marks_len]; omega), marks_len, Nat.sub_self, List.getElem?_drop]
  simp

theorem markIntS_c (A : Option Addr) (c n lo : Nat) (xs : List Int) (k : Int) (w : World) (hxs : OwI w lo A c n xs) (hk0 : 0 ≤ k) (hk1 : k ≤ 67108864) (hn : n ≤ 4194304) : Calls Try.prog 59 #[.slice A n c, .int .i64 k] w fun E w' => E = .returned (.int .i64 (k + n)) ∧ OwI w' lo A c n (marks k n) ∧ Ch (atA A) w w' := by
  have hl := Lib.hid hxs.1
  go_enter Try.func59, Try.ntmps59
  go_wp2_with fail
  go_loopw [5, 1] (fun i kk wr => ∃ j : Nat, j ≤ n ∧ i = .int .i64 j ∧ kk = .int .i64 (k + j) ∧ Ch (atA A) w wr ∧ OwI wr lo A c n (marks k j ++ xs.drop j)) (fun i _ _ => n - (intOf i).toNat)
  case atStart => exact ⟨0, Nat.zero_le _, rfl, by simp, Ch.refl _ _, hxs⟩
  case round =>
    obtain ⟨j, hj, rfl, rfl, hb2, hrel⟩ := hrel
    by_cases hlt : j < n
    · obtain ⟨g', x', rfl, hg0', hg', hx', hc', hfr⟩ := at_OI hrel hlt
      have Hs := Lib.hid (OI_set hrel rfl hx' (k + j))
      have hw : IntKind.i64.wrap (k + j + 1) = k + ((j + 1 : Nat) : Int) := by rw [IntWalk.i64_in _ (by omega)]; omega
      have Hb := Lib.hid hb2
      clear hrel hx' hb2
      go_wp2_with fail
      go_roundw
      case rel =>
        refine ⟨j + 1, by omega, by go_num, rfl, Ch.setCell (p := ⟨g', j, none⟩) Hb.out (Or.inl ⟨⟨g', 0, none⟩, rfl, rfl⟩) _, ?_⟩
        have := Hs.out
        rw [marks_set hl.out hlt] at this
        exact this
      case measure => simp [intOf]; omega
    · have Hrel := Lib.hid hrel; clear hrel
      go_wp2_with fail
      go_ret
      obtain rfl : j = n := by omega
      have := Hrel.out
      rw [List.drop_of_length_le (by have := hl.out; omega), List.append_nil] at this
      exact ⟨rfl, this, hb2⟩

theorem heldIntS_c (A : Option Addr) (c n : Nat) (k : Int) (w : World) (hxs : RI w 0 A c n (marks k n)) (hk0 : 0 ≤ k) (hk1 : k ≤ 67108864) (hn : n ≤ 4194304) : Calls Try.prog 130 #[.slice A n c, .int .i64 k] w fun E w' => E = .returned (.int .i64 (k + n)) ∧ w = w' := by
  go_enter Try.func130, Try.ntmps130
  go_wp2
  go_loop [5, 1] (fun i kk => ∃ j : Nat, j ≤ n ∧ i = .int .i64 j ∧ kk = .int .i64 (k + j)) (fun i _ => n - (intOf i).toNat)
  case atStart => exact ⟨0, Nat.zero_le _, rfl, by simp⟩
  case round =>
    obtain ⟨j, hj, rfl, rfl⟩ := hrel
    by_cases hlt : j < n
    · obtain ⟨g, off, y, rfl, hg0, hg, hd, hy, hcy⟩ := at_I hxs hlt
      rw [marks_at n j k hlt] at hy
      obtain rfl := Option.some.inj hy
      have hw : IntKind.i64.wrap (k + j + 1) = k + ((j + 1 : Nat) : Int) := by rw [IntWalk.i64_in _ (by omega)]; omega
      clear hd hy
      go_wp2
      go_round
      case rel => exact ⟨j + 1, by omega, by go_num, rfl⟩
      case measure => simp [intOf]; omega
    · go_wp2
      go_ret
      obtain rfl : j = n := by omega
      exact ⟨rfl, rfl⟩

theorem markGatGate_c (t : Sw.Head) (A : Option Addr) (c n lo : Nat) (xs : List Int) (k : Int) (w : World) (hxs : OwI w lo A c n xs) (hk0 : 0 ≤ k) (hk1 : k ≤ 67108864) (hn : n ≤ 4194304) : Calls Try.prog 58 #[.agg #[.int .i64 t.size, .int .i64 t.log, .int .i64 t.own, .slice A n c], .int .i64 k] w fun E w' => E = .returned (.int .i64 (k + n)) ∧ OwI w' lo A c n (marks k n) ∧ Ch (atA A) w w' := by
  go_enter Try.func58, Try.ntmps58
  go_wp2_with (go_at_call 59; apply Calls.mono; apply markIntS_c; exact hxs.keep (by (exact kf_)); omega; omega; omega; rintro E w1 ⟨rfl, hmk, hbk⟩)
  go_ret
  exact ⟨rfl, hmk, ext_⟩

theorem heldGatGate_c (t : Sw.Head) (A : Option Addr) (c n : Nat) (k : Int) (w : World) (hxs : RI w 0 A c n (marks k n)) (hk0 : 0 ≤ k) (hk1 : k ≤ 67108864) (hn : n ≤ 4194304) : Calls Try.prog 60 #[.agg #[.int .i64 t.size, .int .i64 t.log, .int .i64 t.own, .slice A n c], .int .i64 k] w fun E w' => E = .returned (.int .i64 (k + n)) ∧ Ex w w' := by
  have hb : decide (k + (n : Int) < 0) = false := by simp; omega
  go_enter Try.func60, Try.ntmps60
  go_wp2_with (first | (go_at_call 130; apply Calls.mono; apply heldIntS_c; ((first | (apply Rs.at0; assumption) | (apply Ow.rs0; assumption)); exact kf_); (first | assumption | omega); (first | assumption | omega); (first | assumption | omega); rintro E w' ⟨rfl, rfl⟩))
  go_ret
  exact ⟨rfl, ext_⟩
end Go.Proofs.Ytncoiknpkebgoaa

namespace Go.Proofs.Ytncoiknpkebgoaa
set_option maxRecDepth 100000
set_option linter.unusedSimpArgs false
set_option linter.unusedVariables false
open Go.RowKit Go
set_option maxHeartbeats 1000000

def FI (zs : List Int) : List Value := zs.map (Value.int .i64)
/-- An owned slice of structs of sz numbers, by its cells. -/
structure OwFl (sz : Nat) (e : TypeId) (w : World) (lo : Nat) (A : Option Addr) (c n : Nat) (zs : List Int) : Prop where
  len : n * sz = zs.length
  owns : w.ownsRow lo e sz (.slice A n c) n (FI zs)
section
variable {sz : Nat} {e : TypeId} {w w' : World} {lo lo' c n k : Nat} {A : Option Addr} {zs : List Int}
theorem OwFl.of {α : Type} {enc : α → List Value} {f : α → List Int} {xs : List α} (h : Ow enc sz e w lo A c n xs) (hf : ∀ x, enc x = FI (f x)) (hl : ∀ x, (f x).length = sz) : OwFl sz e w lo A c n (xs.flatMap f) := by
  have e1 : xs.flatMap enc = FI (xs.flatMap f) := by
    clear h
    induction xs with
    | nil => rfl
    | cons x xs ih => rw [List.flatMap_cons, List.flatMap_cons, ih, hf]; simp [FI]
  have e2 : (xs.flatMap f).length = xs.length * sz := by
    clear h e1
    induction xs with
    | nil => simp
    | cons x xs ih => simp only [List.flatMap_cons, List.length_append, hl, ih, List.length_cons, Nat.succ_mul]; omega
  exact ⟨by rw [e2, h.1], by rw [← e1]; exact h.2⟩
theorem OwFl.form (h : OwFl sz e w lo A c n zs) : (A = none ∧ n = 0 ∧ c = 0) ∨ ∃ g cur, A = some ⟨g, 0, none⟩ ∧ lo ≤ g ∧ g < w.heap.size ∧ w.heap[g]? = some (.cells cur e (0, 0)) ∧ n ≤ c ∧ c ≤ maxLen ∧ cur.size = c * sz ∧ cur.toList.take (n * sz) = FI zs := by
  rcases h.owns.2 with ⟨hv, h0⟩ | ⟨g, cap, cur, hv, hb, hh, hn, hm, hs, ht⟩
  · injection hv with h1 h2 h3; exact .inl ⟨h1, h2, h3⟩
  · injection hv with h1 h2 h3
    subst h3
    exact .inr ⟨g, cur, h1, hb, (Array.getElem?_eq_some_iff.1 hh).1, hh, hn, hm, hs, ht⟩
theorem OwFl.keep_ (h : OwFl sz e w lo A c n zs) (hk : ∀ a, A = some a → w'.heap[a.block]? = w.heap[a.block]?) : OwFl sz e w' lo A c n zs := by
  refine ⟨h.len, h.owns.1, ?_⟩
  rcases h.owns.2 with hv | ⟨g, cap, cur, hv, hb, hh, r⟩
  · exact .inl hv
  · have hA : A = some ⟨g, 0, none⟩ := by injection hv
    exact .inr ⟨g, cap, cur, hv, hb, (hk _ hA).trans hh, r⟩
theorem OwFl.blk (h : OwFl sz e w lo A c n zs) {a : Addr} (ha : A = some a) : lo ≤ a.block ∧ a.block < w.heap.size := by
  rcases h.form with ⟨h1, _⟩ | ⟨g, cur, h1, h2, h3, _⟩
  · rw [h1] at ha; cases ha
  · rw [h1] at ha; cases ha; exact ⟨h2, h3⟩
theorem OwFl.cell (h : OwFl sz e w lo A c n zs) {i : Nat} (hi : i < n * sz) : ∃ g z, A = some ⟨g, 0, none⟩ ∧ lo ≤ g ∧ g < w.heap.size ∧ w.cell? ⟨g, i, none⟩ = some (.int .i64 z) ∧ ∀ i, w.frozen? ⟨g, i, none⟩ = false := by
  rcases h.form with ⟨_, h1, _⟩ | ⟨g, cur, h1, h2, h3, h4, _, _, _, h5⟩
  · subst h1; simp at hi
  · have hz : i < zs.length := by rw [← h.len]; exact hi
    have h6 : cur[i]? = some (.int .i64 zs[i]) := by
      have h7 := congrArg (fun l : List Value => l[i]?) h5
      simp only [List.getElem?_take, if_pos hi, FI, List.getElem?_map, List.getElem?_eq_getElem hz, Option.map_some] at h7
      rw [← h7]; simp
    refine ⟨g, zs[i], h1, h2, h3, ?_, fun i => by simp [World.frozen?, h4]⟩
    simp [World.cell?, h4, h6]
theorem marks_app : ∀ (a b : Nat) (k : Int), marks k (a + b) = marks k a ++ marks (k + a) b
  | 0, b, k => by simp [marks]
  | a + 1, b, k => by
    rw [show a + 1 + b = (a + b) + 1 from by omega, marks, marks, marks_app a b (k + 1), List.cons_append]
    congr 3; omega
theorem OwFl.put {z0 : List Int} {k : Int} {j g : Nat} (h : OwFl sz e w lo (some ⟨g, 0, none⟩) c n (marks k (j * sz) ++ z0.drop (j * sz))) (hl : n * sz = z0.length) (hj : j < n) :
    OwFl sz e (setCells w g (j * sz) (FI (marks (k + (j : Int) * sz) sz))) lo (some ⟨g, 0, none⟩) c n (marks k ((j + 1) * sz) ++ z0.drop ((j + 1) * sz)) := by
  have h1 : (j + 1) * sz = j * sz + sz := Nat.succ_mul j sz
  have h2 : j * sz + sz ≤ n * sz := by rw [← h1]; exact Nat.mul_le_mul_right _ hj
  have hm : ∀ (a : Int) (b : Nat), (FI (marks a b)).length = b := fun a b => by simp [FI, marks_len]
  have hle : j * sz + (FI (marks (k + (j : Int) * sz) sz)).length ≤ (FI (marks k (j * sz) ++ z0.drop (j * sz))).length := by
    rw [hm]
    simp only [FI, List.length_map, List.length_append, marks_len, List.length_drop]
    omega
  have := ownsRow_sets _ _ w h.owns hle
  rw [setMany_eq _ _ _ hle, hm] at this
  have e1 : (FI (marks k (j * sz) ++ z0.drop (j * sz))).take (j * sz) = FI (marks k (j * sz)) := by
    unfold FI
    rw [List.map_append, List.take_append_of_le_length (by simp [marks_len]), List.take_of_length_le (by simp [marks_len])]
  have e2 : (FI (marks k (j * sz) ++ z0.drop (j * sz))).drop (j * sz + sz) = FI (z0.drop ((j + 1) * sz)) := by
    unfold FI
    rw [List.map_append, List.drop_append, List.drop_of_length_le (by simp [marks_len]), List.length_map, marks_len, List.nil_append, ← List.map_drop, List.drop_drop, h1]
    congr 2; omega
  rw [e1, e2] at this
  refine ⟨by simp only [List.length_append, marks_len, List.length_drop]; omega, ?_⟩
  have e3 : FI (marks k ((j + 1) * sz) ++ z0.drop ((j + 1) * sz)) = FI (marks k (j * sz)) ++ FI (marks (k + (j : Int) * sz) sz) ++ FI (z0.drop ((j + 1) * sz)) := by
    rw [h1, marks_app]
    simp [FI]
  rw [e3]
  exact this
theorem setCells_ch {S : Nat → Prop} {w0 : World} {g : Nat} : ∀ {vs : List Value} {w : World} {i : Nat}, Ch S w0 w → S g → Ch S w0 (setCells w g i vs)
  | [], _, _, h, _ => h
  | v :: vs, w, i, h, hg => setCells_ch (vs := vs) (h.setCell (p := ⟨g, i, none⟩) (Or.inl hg) v) hg
theorem OwFl.rd (h : OwFl sz e w lo A c n zs) : Rd w lo A c sz n (FI zs) := Rd.of_own h.owns
/-- What marks may be read. -/
theorem Rd.marks {k : Int} {N : Nat} (h : Rd w lo A c sz n (FI (Go.Proofs.Ytncoiknpkebgoaa.marks k N))) (hn : 0 < n) : ∃ g off, A = some ⟨g, off, none⟩ ∧ ∀ i, i < N → w.cell? ⟨g, off + i, none⟩ = some (.int .i64 (k + (i : Nat))) := by
  cases A with
  | none => have := h.nil rfl; have := h.le; omega
  | some a =>
    obtain ⟨h1, h2, h3, h4⟩ := h.cells a rfl hn
    obtain ⟨g, off, spot⟩ := a
    dsimp only at h1 h2 h3 h4
    subst h1
    refine ⟨g, off, rfl, fun i hi => h4 i _ ?_⟩
    simp only [FI, List.getElem?_map, marks_at N i k hi, Option.map_some]
end
def Sw.Ent.ints (x : Sw.Ent) : List Int := [x.kind, x.ticket, x.who, x.price]
def Sw.Deal.ints (x : Sw.Deal) : List Int := [x.ticket, x.seller, x.price, x.buyer, x.due]
def Sw.Req.ints (x : Sw.Req) : List Int := [x.user, x.n, x.kind, x.ticket, x.who, x.price]

theorem markEnt_c (A : Option Addr) (c n lo : Nat) (e : TypeId) (zs : List Int) (k : Int) (w : World) (h : OwFl 4 e w lo A c n zs) (hk0 : 0 ≤ k) (hk1 : k ≤ 67108864) (hn : n ≤ 4194304) : Calls Try.prog 127 #[.slice A n c, .int .i64 k] w fun E w' => E = .returned (.int .i64 (k + (n : Int) * 4)) ∧ OwFl 4 e w' lo A c n (marks k (n * 4)) ∧ Ch (atA A) w w' := by

  go_enter Try.func127, Try.ntmps127
  go_wp2_with fail
  go_loopw [5, 1] (fun i kk wr => ∃ j : Nat, j ≤ n ∧ i = .int .i64 j ∧ kk = .int .i64 (k + (j : Int) * 4) ∧ Ch (atA A) w wr ∧ OwFl 4 e wr lo A c n (marks k (j * 4) ++ zs.drop (j * 4))) (fun i _ _ => n - (intOf i).toNat)
  case atStart => exact ⟨0, Nat.zero_le _, rfl, by simp, Ch.refl _ _, by simpa [marks] using h⟩
  case round =>
    obtain ⟨j, hj, rfl, rfl, hb2, hrel⟩ := hrel
    by_cases hlt : j < n
    · obtain ⟨g0, z0, hA0, hlo0, hlt0, q0, hfr⟩ := OwFl.cell hrel (i := j * 4) (by omega)
      subst hA0
      obtain ⟨g1, z1, hA1, _, _, q1, _⟩ := OwFl.cell hrel (i := j * 4 + 1) (by omega); cases hA1
      obtain ⟨g2, z2, hA2, _, _, q2, _⟩ := OwFl.cell hrel (i := j * 4 + 2) (by omega); cases hA2
      obtain ⟨g3, z3, hA3, _, _, q3, _⟩ := OwFl.cell hrel (i := j * 4 + 3) (by omega); cases hA3
      have Hs := Lib.hid (OwFl.put hrel h.len hlt)
      have Hb := Lib.hid hb2
      clear hrel hb2
      go_wp2_with fail
      go_roundw
      case rel =>
        refine ⟨j + 1, by omega, by go_num, int_i (by omega), ?_, ?_⟩
        · exact (setCells_ch (vs := FI (marks (k + (j : Int) * 4) 4)) Hb.out ⟨⟨g0, 0, none⟩, rfl, rfl⟩)
        · exact Hs.out
      case measure => simp [intOf]; omega
    · have Hrel := Lib.hid hrel; clear hrel
      go_wp2_with fail
      go_ret
      obtain rfl : j = n := by omega
      have := Hrel.out
      rw [List.drop_of_length_le (by have := h.len; omega), List.append_nil] at this
      exact ⟨rfl, this, hb2⟩

theorem markDeal_c (A : Option Addr) (c n lo : Nat) (e : TypeId) (zs : List Int) (k : Int) (w : World) (h : OwFl 5 e w lo A c n zs) (hk0 : 0 ≤ k) (hk1 : k ≤ 67108864) (hn : n ≤ 4194304) : Calls Try.prog 128 #[.slice A n c, .int .i64 k] w fun E w' => E = .returned (.int .i64 (k + (n : Int) * 5)) ∧ OwFl 5 e w' lo A c n (marks k (n * 5)) ∧ Ch (atA A) w w' := by

  go_enter Try.func128, Try.ntmps128
  go_wp2_with fail
  go_loopw [5, 1] (fun i kk wr => ∃ j : Nat, j ≤ n ∧ i = .int .i64 j ∧ kk = .int .i64 (k + (j : Int) * 5) ∧ Ch (atA A) w wr ∧ OwFl 5 e wr lo A c n (marks k (j * 5) ++ zs.drop (j * 5))) (fun i _ _ => n - (intOf i).toNat)
  case atStart => exact ⟨0, Nat.zero_le _, rfl, by simp, Ch.refl _ _, by simpa [marks] using h⟩
  case round =>
    obtain ⟨j, hj, rfl, rfl, hb2, hrel⟩ := hrel
    by_cases hlt : j < n
    · obtain ⟨g0, z0, hA0, hlo0, hlt0, q0, hfr⟩ := OwFl.cell hrel (i := j * 5) (by omega)
      subst hA0
      obtain ⟨g1, z1, hA1, _, _, q1, _⟩ := OwFl.cell hrel (i := j * 5 + 1) (by omega); cases hA1
      obtain ⟨g2, z2, hA2, _, _, q2, _⟩ := OwFl.cell hrel (i := j * 5 + 2) (by omega); cases hA2
      obtain ⟨g3, z3, hA3, _, _, q3, _⟩ := OwFl.cell hrel (i := j * 5 + 3) (by omega); cases hA3
      obtain ⟨g4, z4, hA4, _, _, q4, _⟩ := OwFl.cell hrel (i := j * 5 + 4) (by omega); cases hA4
      have Hs := Lib.hid (OwFl.put hrel h.len hlt)
      have Hb := Lib.hid hb2
      clear hrel hb2
      go_wp2_with fail
      go_roundw
      case rel =>
        refine ⟨j + 1, by omega, by go_num, int_i (by omega), ?_, ?_⟩
        · exact (setCells_ch (vs := FI (marks (k + (j : Int) * 5) 5)) Hb.out ⟨⟨g0, 0, none⟩, rfl, rfl⟩)
        · exact Hs.out
      case measure => simp [intOf]; omega
    · have Hrel := Lib.hid hrel; clear hrel
      go_wp2_with fail
      go_ret
      obtain rfl : j = n := by omega
      have := Hrel.out
      rw [List.drop_of_length_le (by have := h.len; omega), List.append_nil] at this
      exact ⟨rfl, this, hb2⟩

theorem heldEnt_c (A : Option Addr) (c n lo : Nat) (k : Int) (w : World) (h : Rd w lo A c 4 n (FI (marks k (n * 4)))) (hk0 : 0 ≤ k) (hk1 : k ≤ 67108864) (hn : n ≤ 4194304) : Calls Try.prog 129 #[.slice A n c, .int .i64 k] w fun E w' => E = .returned (.int .i64 (k + (n : Int) * 4)) ∧ w = w' := by

  have hle := h.le
  go_enter Try.func129, Try.ntmps129
  go_wp2
  go_loop [5, 1] (fun i kk => ∃ j : Nat, j ≤ n ∧ i = .int .i64 j ∧ kk = .int .i64 (k + (j : Int) * 4)) (fun i _ => n - (intOf i).toNat)
  case atStart => exact ⟨0, Nat.zero_le _, rfl, by simp⟩
  case round =>
    obtain ⟨j, hj, rfl, rfl⟩ := hrel
    by_cases hlt : j < n
    · obtain ⟨g, off, rfl, hq⟩ := Rd.marks h (by omega)
      have q0 := hq (j * 4 + 0) (by omega); rw [show off + (j * 4 + 0) = off + j * 4 from by omega] at q0
      have q1 := hq (j * 4 + 1) (by omega); rw [show off + (j * 4 + 1) = off + j * 4 + 1 from by omega] at q1
      have q2 := hq (j * 4 + 2) (by omega); rw [show off + (j * 4 + 2) = off + j * 4 + 2 from by omega] at q2
      have q3 := hq (j * 4 + 3) (by omega); rw [show off + (j * 4 + 3) = off + j * 4 + 3 from by omega] at q3
      have f0 : k + ((j * 4 + 0 : Nat) : Int) = k + (j : Int) * 4 := by omega
      rw [f0] at q0
      clear f0
      have f1 : k + ((j * 4 + 1 : Nat) : Int) = k + (j : Int) * 4 + 1 := by omega
      rw [f1] at q1
      clear f1
      have f2 : k + ((j * 4 + 2 : Nat) : Int) = k + (j : Int) * 4 + 1 + 1 := by omega
      rw [f2] at q2
      clear f2
      have f3 : k + ((j * 4 + 3 : Nat) : Int) = k + (j : Int) * 4 + 1 + 1 + 1 := by omega
      rw [f3] at q3
      clear f3
      clear hq
      go_wp2
      go_round
      case rel => exact ⟨j + 1, by omega, by go_num, int_i (by omega)⟩
      case measure => simp [intOf]; omega
    · go_wp2
      go_ret
      obtain rfl : j = n := by omega
      exact ⟨rfl, rfl⟩

theorem heldDeal_c (A : Option Addr) (c n lo : Nat) (k : Int) (w : World) (h : Rd w lo A c 5 n (FI (marks k (n * 5)))) (hk0 : 0 ≤ k) (hk1 : k ≤ 67108864) (hn : n ≤ 4194304) : Calls Try.prog 131 #[.slice A n c, .int .i64 k] w fun E w' => E = .returned (.int .i64 (k + (n : Int) * 5)) ∧ w = w' := by

  have hle := h.le
  go_enter Try.func131, Try.ntmps131
  go_wp2
  go_loop [5, 1] (fun i kk => ∃ j : Nat, j ≤ n ∧ i = .int .i64 j ∧ kk = .int .i64 (k + (j : Int) * 5)) (fun i _ => n - (intOf i).toNat)
  case atStart => exact ⟨0, Nat.zero_le _, rfl, by simp⟩
  case round =>
    obtain ⟨j, hj, rfl, rfl⟩ := hrel
    by_cases hlt : j < n
    · obtain ⟨g, off, rfl, hq⟩ := Rd.marks h (by omega)
      have q0 := hq (j * 5 + 0) (by omega); rw [show off + (j * 5 + 0) = off + j * 5 from by omega] at q0
      have q1 := hq (j * 5 + 1) (by omega); rw [show off + (j * 5 + 1) = off + j * 5 + 1 from by omega] at q1
      have q2 := hq (j * 5 + 2) (by omega); rw [show off + (j * 5 + 2) = off + j * 5 + 2 from by omega] at q2
      have q3 := hq (j * 5 + 3) (by omega); rw [show off + (j * 5 + 3) = off + j * 5 + 3 from by omega] at q3
      have q4 := hq (j * 5 + 4) (by omega); rw [show off + (j * 5 + 4) = off + j * 5 + 4 from by omega] at q4
      have f0 : k + ((j * 5 + 0 : Nat) : Int) = k + (j : Int) * 5 := by omega
      rw [f0] at q0
      clear f0
      have f1 : k + ((j * 5 + 1 : Nat) : Int) = k + (j : Int) * 5 + 1 := by omega
      rw [f1] at q1
      clear f1
      have f2 : k + ((j * 5 + 2 : Nat) : Int) = k + (j : Int) * 5 + 1 + 1 := by omega
      rw [f2] at q2
      clear f2
      have f3 : k + ((j * 5 + 3 : Nat) : Int) = k + (j : Int) * 5 + 1 + 1 + 1 := by omega
      rw [f3] at q3
      clear f3
      have f4 : k + ((j * 5 + 4 : Nat) : Int) = k + (j : Int) * 5 + 1 + 1 + 1 + 1 := by omega
      rw [f4] at q4
      clear f4
      clear hq
      go_wp2
      go_round
      case rel => exact ⟨j + 1, by omega, by go_num, int_i (by omega)⟩
      case measure => simp [intOf]; omega
    · go_wp2
      go_ret
      obtain rfl : j = n := by omega
      exact ⟨rfl, rfl⟩

end Go.Proofs.Ytncoiknpkebgoaa

namespace Go.Proofs.Ytncoiknpkebgoaa
set_option maxRecDepth 100000
set_option linter.unusedSimpArgs false
set_option linter.unusedVariables false
open Go.RowKit Go
set_option maxHeartbeats 1000000

section
variable {τ : Nat → Nat} {t lo : Nat} {a w w' : World}
theorem tR (τ : Nat → Nat) (t lo : Nat) (w : World) : KT τ t lo w w := KT.refl τ t lo w
theorem tA {o : Obj} (h : KT τ t lo a w) : KT τ t lo a (w.alloc o) := h.alloc
theorem tD (h : KT τ t lo a w) : KT τ t lo a w.drew := h.drew
theorem tN {n : Nat} (h : KT τ t lo a w) : KT τ t lo a (w.drewN n) := h.drewN
theorem tS {p : Addr} {u : Value} (h : KT τ t lo a w) (hp : a.heap.size ≤ p.block ∨ τ p.block ≠ t) : KT τ t lo a (w.setCell p u) := h.setCell hp
theorem tE (hb : Ex w w') (h : KT τ t lo a w) : KT τ t lo a w' := h.ex hb
end
/-- What a request or the clock may turn of a market. -/
def SM (lo : Nat) (τ : Nat → Nat) : Nat → Prop := fun k => lo ≤ k ∧ 1 ≤ τ k ∧ τ k ≤ 5
/-- Block g holds, from o on, a market's six cells. -/
structure MktAt (w : World) (g o : Nat) (aL : Option Addr) (aLc aLn : Nat) (aP : Option Addr) (aPc aPn : Nat) (aD : Option Addr) (aDc aDn : Nat) (aN : Option Addr) (aNc aNn : Nat) (aS : Option Addr) (aSc aSn : Nat) (clock : Int) : Prop where
  lt : g < w.heap.size
  log : w.cell? ⟨g, o, none⟩ = some (.slice aL aLn aLc)
  purses : w.cell? ⟨g, o + 1, none⟩ = some (.slice aP aPn aPc)
  deals : w.cell? ⟨g, o + 2, none⟩ = some (.slice aD aDn aDc)
  clk : w.cell? ⟨g, o + 3, none⟩ = some (.int .i64 clock)
  nums : w.cell? ⟨g, o + 4, none⟩ = some (.slice aN aNn aNc)
  said : w.cell? ⟨g, o + 5, none⟩ = some (.slice aS aSn aSc)
  free : ∀ i, w.frozen? ⟨g, i, none⟩ = false
theorem MktAt.keep {w w' : World} {g o : Nat} {aL : Option Addr} {aLc aLn : Nat} {aP : Option Addr} {aPc aPn : Nat} {aD : Option Addr} {aDc aDn : Nat} {aN : Option Addr} {aNc aNn : Nat} {aS : Option Addr} {aSc aSn : Nat} {clock : Int} (h : MktAt w g o aL aLc aLn aP aPc aPn aD aDc aDn aN aNc aNn aS aSc aSn clock) (hk : KF 0 w w') : MktAt w' g o aL aLc aLn aP aPc aPn aD aDc aDn aN aNc aNn aS aSc aSn clock := by
  have hb := hk.block g (Nat.zero_le _) h.lt
  have hc : ∀ i, w'.cell? ⟨g, i, none⟩ = w.cell? ⟨g, i, none⟩ := fun i => World.cell?_of_block (w := w) (a := ⟨g, i, none⟩) hb
  exact ⟨Nat.lt_of_lt_of_le h.lt hk.size, (hc _).trans h.log, (hc _).trans h.purses, (hc _).trans h.deals, (hc _).trans h.clk, (hc _).trans h.nums, (hc _).trans h.said, fun i => (World.frozen?_of_block (w := w) (a := ⟨g, i, none⟩) hb).trans (h.free i)⟩
/-- A store of the purses. -/
theorem MktAt.setP {w : World} {g o : Nat} {aL : Option Addr} {aLc aLn : Nat} {aP : Option Addr} {aPc aPn : Nat} {aD : Option Addr} {aDc aDn : Nat} {aN : Option Addr} {aNc aNn : Nat} {aS : Option Addr} {aSc aSn : Nat} {clock : Int} (h : MktAt w g o aL aLc aLn aP aPc aPn aD aDc aDn aN aNc aNn aS aSc aSn clock) (B : Option Addr) (n d : Nat) : MktAt (w.setCell ⟨g, o + 1, none⟩ (.slice B n d)) g o aL aLc aLn B d n aD aDc aDn aN aNc aNn aS aSc aSn clock := by
  have ne : ∀ i j : Nat, i ≠ j → (⟨g, i, none⟩ : Addr) ≠ ⟨g, j, none⟩ := fun i j hij e => hij (by injection e)
  exact ⟨by simpa [World.setCell] using h.lt, (World.cell?_setCell_other _ _ _ _ (ne _ _ (by omega))).trans h.log, World.cell?_setCell_same _ _ _ h.purses, (World.cell?_setCell_other _ _ _ _ (ne _ _ (by omega))).trans h.deals, (World.cell?_setCell_other _ _ _ _ (ne _ _ (by omega))).trans h.clk,
    (World.cell?_setCell_other _ _ _ _ (ne _ _ (by omega))).trans h.nums, (World.cell?_setCell_other _ _ _ _ (ne _ _ (by omega))).trans h.said, fun i => by simpa using h.free i⟩
/-- A store of the clock. -/
theorem MktAt.setK {w : World} {g o : Nat} {aL : Option Addr} {aLc aLn : Nat} {aP : Option Addr} {aPc aPn : Nat} {aD : Option Addr} {aDc aDn : Nat} {aN : Option Addr} {aNc aNn : Nat} {aS : Option Addr} {aSc aSn : Nat} {clock : Int} (h : MktAt w g o aL aLc aLn aP aPc aPn aD aDc aDn aN aNc aNn aS aSc aSn clock) (t : Int) : MktAt (w.setCell ⟨g, o + 3, none⟩ (.int .i64 t)) g o aL aLc aLn aP aPc aPn aD aDc aDn aN aNc aNn aS aSc aSn t := by
  have ne : ∀ i j : Nat, i ≠ j → (⟨g, i, none⟩ : Addr) ≠ ⟨g, j, none⟩ := fun i j hij e => hij (by injection e)
  exact ⟨by simpa [World.setCell] using h.lt, (World.cell?_setCell_other _ _ _ _ (ne _ _ (by omega))).trans h.log, (World.cell?_setCell_other _ _ _ _ (ne _ _ (by omega))).trans h.purses, (World.cell?_setCell_other _ _ _ _ (ne _ _ (by omega))).trans h.deals, World.cell?_setCell_same _ _ _ h.clk,
    (World.cell?_setCell_other _ _ _ _ (ne _ _ (by omega))).trans h.nums, (World.cell?_setCell_other _ _ _ _ (ne _ _ (by omega))).trans h.said, fun i => by simpa using h.free i⟩
/-- A store into another block. -/
theorem MktAt.other {w : World} {g o : Nat} {aL : Option Addr} {aLc aLn : Nat} {aP : Option Addr} {aPc aPn : Nat} {aD : Option Addr} {aDc aDn : Nat} {aN : Option Addr} {aNc aNn : Nat} {aS : Option Addr} {aSc aSn : Nat} {clock : Int} (h : MktAt w g o aL aLc aLn aP aPc aPn aD aDc aDn aN aNc aNn aS aSc aSn clock) {p : Addr} (v : Value) (hp : p.block ≠ g) : MktAt (w.setCell p v) g o aL aLc aLn aP aPc aPn aD aDc aDn aN aNc aNn aS aSc aSn clock := by
  have ne : ∀ i : Nat, p ≠ ⟨g, i, none⟩ := fun i e => hp (by rw [e])
  exact ⟨by simpa [World.setCell] using h.lt, (World.cell?_setCell_other _ _ _ _ (ne _)).trans h.log, (World.cell?_setCell_other _ _ _ _ (ne _)).trans h.purses, (World.cell?_setCell_other _ _ _ _ (ne _)).trans h.deals, (World.cell?_setCell_other _ _ _ _ (ne _)).trans h.clk,
    (World.cell?_setCell_other _ _ _ _ (ne _)).trans h.nums, (World.cell?_setCell_other _ _ _ _ (ne _)).trans h.said, fun i => by simpa using h.free i⟩
theorem MktAt.drew {w : World} {g o : Nat} {aL : Option Addr} {aLc aLn : Nat} {aP : Option Addr} {aPc aPn : Nat} {aD : Option Addr} {aDc aDn : Nat} {aN : Option Addr} {aNc aNn : Nat} {aS : Option Addr} {aSc aSn : Nat} {clock : Int} (h : MktAt w g o aL aLc aLn aP aPc aPn aD aDc aDn aN aNc aNn aS aSc aSn clock) : MktAt w.drew g o aL aLc aLn aP aPc aPn aD aDc aDn aN aNc aNn aS aSc aSn clock := ⟨h.1, h.2, h.3, h.4, h.5, h.6, h.7, h.8⟩
/-- The block of an owned slice. -/
theorem Ow.lbA {α : Type} {enc : α → List Value} {sz : Nat} {e : TypeId} {w : World} {lo c n g : Nat} {xs : List α} (h : Ow enc sz e w lo (some ⟨g, 0, none⟩) c n xs) : Lb w g (c * sz) := by
  rcases h.form with ⟨h1, _⟩ | ⟨g', cur, h1, h2, h3, h4, h5, h6, h7, h8⟩
  · cases h1
  · cases h1; exact ⟨cur, e, h4, h7⟩
theorem OD_set3 {w : World} {lo c n k g : Nat} {A : Option Addr} {xs : List Sw.Deal} (h : OwD w lo A c n xs) (hA : A = some ⟨g, 0, none⟩) {x : Sw.Deal} (hx : xs[k]? = some x) (v : Int) :
    OwD (w.setCell ⟨g, k * 5 + 3, none⟩ (.int .i64 v)) lo A c n (xs.set k { x with buyer := v }) := by
  obtain ⟨a, b, c', d, e⟩ := x
  exact Ow.set h (fun _ => rfl) (j := 3) (u := .int .i64 v) hA hx (by omega) (y := ⟨a, b, c', v, e⟩) rfl
theorem OD_set4 {w : World} {lo c n k g : Nat} {A : Option Addr} {xs : List Sw.Deal} (h : OwD w lo A c n xs) (hA : A = some ⟨g, 0, none⟩) {x : Sw.Deal} (hx : xs[k]? = some x) (v : Int) :
    OwD (w.setCell ⟨g, k * 5 + 4, none⟩ (.int .i64 v)) lo A c n (xs.set k { x with due := v }) := by
  obtain ⟨a, b, c', d, e⟩ := x
  exact Ow.set h (fun _ => rfl) (j := 4) (u := .int .i64 v) hA hx (by omega) (y := ⟨a, b, c', d, v⟩) rfl
/-- Deals of which the first k have been asked. -/
def backs (clock : Int) (ds : List Sw.Deal) (k : Nat) : List Sw.Deal := (ds.take k).map (Sw.backDeal clock) ++ ds.drop k
theorem backs_at {clock : Int} {ds : List Sw.Deal} {k : Nat} {y : Sw.Deal} (h : ds[k]? = some y) : (backs clock ds k)[k]? = some y := by
  have hk := (List.getElem?_eq_some_iff.1 h).1
  unfold backs
  rw [List.getElem?_append_right (by simp; omega), List.length_map, List.length_take, Nat.min_eq_left (by omega), Nat.sub_self, List.getElem?_drop]
  exact h
theorem backs_step {clock : Int} {ds : List Sw.Deal} {k : Nat} {y : Sw.Deal} (h : ds[k]? = some y) : (backs clock ds k).set k (Sw.backDeal clock y) = backs clock ds (k + 1) := by
  have hk := (List.getElem?_eq_some_iff.1 h).1
  unfold backs
  rw [List.set_append_right _ _ (by simp; omega), List.length_map, List.length_take, Nat.min_eq_left (by omega), Nat.sub_self, List.take_add_one, h]
  simp only [List.map_append, List.map_cons, List.append_assoc, Option.toList_some, List.map_nil, List.cons_append, List.nil_append]
  rw [List.drop_eq_getElem_cons hk]
  rfl
theorem set_atM {α : Type} {xs : List α} {k : Nat} {x y : α} (h : xs[k]? = some x) : (xs.set k y)[k]? = some y := by
  rw [List.getElem?_set, if_pos rfl, if_pos (List.getElem?_eq_some_iff.1 h).1]
theorem backs_same {clock : Int} {ds : List Sw.Deal} {k : Nat} {y : Sw.Deal} (h : ds[k]? = some y) (hb : Sw.backDeal clock y = y) : backs clock ds (k + 1) = backs clock ds k := by
  rw [← backs_step h, hb]
  have h1 := backs_at (clock := clock) h
  apply List.ext_getElem?
  intro i
  rw [List.getElem?_set]
  split
  · rename_i e
    subst e
    rw [h1, if_pos (List.getElem?_eq_some_iff.1 h1).1]
  · rfl
theorem backs_all {clock : Int} {ds : List Sw.Deal} {k : Nat} (h : ds.length ≤ k) : backs clock ds k = ds.map (Sw.backDeal clock) := by
  unfold backs
  rw [List.take_of_length_le h, List.drop_of_length_le h, List.append_nil]
def pursesTo (clock : Int) (m : Sw.Mkt) (k : Nat) : List Int := (m.deals.take k).foldl (Sw.backPurse clock) m.purses
theorem pursesTo_step {clock : Int} {m : Sw.Mkt} {k : Nat} {y : Sw.Deal} (h : m.deals[k]? = some y) : pursesTo clock m (k + 1) = Sw.backPurse clock (pursesTo clock m k) y := by
  unfold pursesTo
  rw [List.take_add_one, h]
  simp

/-- A price goes back: new purses, and one deal that is free again. -/
theorem OwM.backed {τ : Nat → Nat} {wr w1 w2 : World} {lo g0 o gD k A3c : Nat} {A3 : Option Addr} {aL aP aN aS : Option Addr} {aLc aLn aPc aPn aDc aDn aNc aNn aSc aSn : Nat} {m : Sw.Mkt} {ps : List Int} {y : Sw.Deal} {v : Value}
    (h : OwM τ wr lo aL aLc aLn aP aPc aPn (some ⟨gD, 0, none⟩) aDc aDn aN aNc aNn aS aSc aSn m) (hb : Ex wr w1) (hb2 : Ex (w1.setCell ⟨g0, o, none⟩ v) w2) (ho : OwI w1 wr.heap.size A3 A3c aPn ps) (t0 : τ g0 = 0) (hg0 : g0 < wr.heap.size) (hx : m.deals[k]? = some y) (hlo : lo ≤ wr.heap.size) :
    OwM (glue τ wr.heap.size (fun _ => 2)) ((w2.setCell ⟨gD, k * 5 + 3, none⟩ (.int .i64 0)).setCell ⟨gD, k * 5 + 4, none⟩ (.int .i64 0)) lo aL aLc aLn A3 A3c aPn (some ⟨gD, 0, none⟩) aDc aDn aN aNc aNn aS aSc aSn
      ⟨m.log, ps, m.deals.set k { y with buyer := 0, due := 0 }, m.clock, m.nums, m.said⟩ := by
  have hgD := h.deals.ow.blk rfl
  dsimp only at hgD
  have tD : τ gD = 3 := h.deals.tag _ rfl
  have tD' : glue τ wr.heap.size (fun _ => 2) gD = 3 := by unfold glue; rw [if_pos hgD.2]; exact tD
  have t0' : glue τ wr.heap.size (fun _ => 2) g0 = 0 := by unfold glue; rw [if_pos hg0]; exact t0
  have hne : g0 ≠ gD := by rintro rfl; omega
  have hz1 := hb.size
  have hz2 : w1.heap.size ≤ w2.heap.size := by have := hb2.size; simpa [World.setCell] using this
  have K : ∀ t, t ≠ 0 → t ≠ 3 → KT (glue τ wr.heap.size (fun _ => 2)) t lo wr ((w2.setCell ⟨gD, k * 5 + 3, none⟩ (.int .i64 0)).setCell ⟨gD, k * 5 + 4, none⟩ (.int .i64 0)) := by
    intro t h0 h3
    refine ((KT.ex hb2 ((KT.ex hb (KT.refl _ _ _ _)).setCell ?_)).setCell ?_).setCell ?_
    · exact Or.inr (by rw [t0']; exact Ne.symm h0)
    · exact Or.inr (by rw [tD']; exact Ne.symm h3)
    · exact Or.inr (by rw [tD']; exact Ne.symm h3)
  have k2 : ∀ b, b < w1.heap.size → b ≠ g0 → w2.heap[b]? = w1.heap[b]? := fun b hb1 hb0 =>
    (hb2.block b (by simpa [World.setCell] using hb1) (fun h => h)).trans (Below.heap_setCell _ _ _ _ hb0)
  refine ⟨(h.log.glueL (Nat.le_refl _)).keep (K 1 (by omega) (by omega)), ⟨?_, fun a ha => ?_⟩, ⟨?_, fun a ha => ?_⟩, (h.nums.glueL (Nat.le_refl _)).keep (K 4 (by omega) (by omega)), (h.said.glueL (Nat.le_refl _)).keep (K 5 (by omega) (by omega))⟩
  · refine (ho.less hlo).keep_ fun a ha => ?_
    have := ho.blk ha
    rw [Below.heap_setCell _ _ _ _ (show a.block ≠ gD by omega), Below.heap_setCell _ _ _ _ (show a.block ≠ gD by omega)]
    exact k2 _ this.2 (by omega)
  · have := (ho.blk ha).1
    unfold glue; rw [if_neg (by omega)]
  · have h1 : OwD w2 lo (some ⟨gD, 0, none⟩) aDc aDn m.deals := h.deals.ow.keep_ fun a ha => by
      cases ha
      exact (k2 gD (by omega) (Ne.symm hne)).trans (hb.block gD hgD.2 (fun h => h))
    have h2 := OD_set4 (OD_set3 h1 rfl hx 0) rfl (set_atM hx) 0
    rw [List.set_set] at h2
    exact h2
  · cases ha
    exact tD'
theorem OwM.clocked {τ : Nat → Nat} {w : World} {lo : Nat} {aL : Option Addr} {aLc aLn : Nat} {aP : Option Addr} {aPc aPn : Nat} {aD : Option Addr} {aDc aDn : Nat} {aN : Option Addr} {aNc aNn : Nat} {aS : Option Addr} {aSc aSn : Nat} {m : Sw.Mkt} (h : OwM τ w lo aL aLc aLn aP aPc aPn aD aDc aDn aN aNc aNn aS aSc aSn m) (t : Int) : OwM τ w lo aL aLc aLn aP aPc aPn aD aDc aDn aN aNc aNn aS aSc aSn { m with clock := t } := ⟨h.1, h.2, h.3, h.4, h.5⟩
theorem back_y {clock : Int} {y : Sw.Deal} (h1 : 0 < y.buyer) (h2 : y.due < clock) : Sw.backDeal clock y = { y with buyer := 0, due := 0 } := by simp [Sw.backDeal, Sw.held, h1, h2]
theorem back_n {clock : Int} {y : Sw.Deal} (h : ¬ (0 < y.buyer ∧ y.due < clock)) : Sw.backDeal clock y = y := by
  have : (Sw.held y && decide (y.due < clock)) = false := by
    rw [Sw.held, ← Bool.decide_and, decide_eq_false_iff_not]; exact h
  simp [Sw.backDeal, this]
theorem backp_y {clock : Int} {p : List Int} {y : Sw.Deal} (h1 : 0 < y.buyer) (h2 : y.due < clock) : Sw.backPurse clock p y = Sw.monTurn p y.buyer y.price := by simp [Sw.backPurse, Sw.held, h1, h2]
theorem backp_n {clock : Int} {p : List Int} {y : Sw.Deal} (h : ¬ (0 < y.buyer ∧ y.due < clock)) : Sw.backPurse clock p y = p := by
  have : (Sw.held y && decide (y.due < clock)) = false := by
    rw [Sw.held, ← Bool.decide_and, decide_eq_false_iff_not]; exact h
  simp [Sw.backPurse, this]
/-- A market whose first k deals have been asked. -/
def ticked (m : Sw.Mkt) (k : Nat) : Sw.Mkt := ⟨m.log, pursesTo (m.clock + 1) m k, backs (m.clock + 1) m.deals k, m.clock + 1, m.nums, m.said⟩
theorem ticked_all {m : Sw.Mkt} {k : Nat} (h : m.deals.length ≤ k) : ticked m k = Sw.tick m := by
  unfold ticked Sw.tick
  rw [backs_all h]
  unfold pursesTo
  rw [List.take_of_length_le h]

theorem sTick_c (aL : Option Addr) (aLc aLn : Nat) (aP : Option Addr) (aPc aPn : Nat) (aD : Option Addr) (aDc aDn : Nat) (aN : Option Addr) (aNc aNn : Nat) (aS : Option Addr) (aSc aSn : Nat) (m : Sw.Mkt) (lo : Nat) (τ : Nat → Nat) (w : World) (hM : OwM τ w lo aL aLc aLn aP aPc aPn aD aDc aDn aN aNc aNn aS aSc aSn m) (hck0 : 0 ≤ m.clock) (hck1 : m.clock ≤ 99999) (hn : aDn ≤ 4194304) (hp : aPn ≤ 4194304) (hlo : lo ≤ w.heap.size) : Calls Try.prog 120 #[.agg #[.slice aL aLn aLc, .slice aP aPn aPc, .slice aD aDn aDc, .int .i64 m.clock, .slice aN aNn aNc, .slice aS aSn aSc]] w fun E w' => ∃ A c, ∃ τ' : Nat → Nat, E = .returned (.agg #[.slice aL aLn aLc, .slice A aPn c, .slice aD aDn aDc, .int .i64 (m.clock + 1), .slice aN aNn aNc, .slice aS aSn aSc]) ∧ OwM τ' w' lo aL aLc aLn A c aPn aD aDc aDn aN aNc aNn aS aSc aSn (Sw.tick m) ∧ (∀ b, b < w.heap.size → τ' b = τ b) ∧ Ch (SM lo τ) w w' := by
  have l3 := Lib.hid hM.deals.ow.1
  go_enter Try.func120, Try.ntmps120
  go_wp2_with fail
  go_loopw [3] (fun i wr => ∃ (k : Nat) (B : Option Addr) (d : Nat) (τr : Nat → Nat), k ≤ aDn ∧ i = .int .i64 k ∧ Ch (SM lo τ) w wr ∧ (∀ b, b < w.heap.size → τr b = τ b) ∧ τr w.heap.size = 0 ∧ τr (w.heap.size + 1) = 0 ∧
    MktAt wr w.heap.size 0 aL aLc aLn B d aPn aD aDc aDn aN aNc aNn aS aSc aSn (m.clock + 1) ∧ w.heap.size + 2 ≤ wr.heap.size ∧ Lb wr (w.heap.size + 1) 6 ∧
    OwM τr wr lo aL aLc aLn B d aPn aD aDc aDn aN aNc aNn aS aSc aSn (ticked m k)) (fun i _ => aDn - (intOf i).toNat)
  case atStart =>
    have g0 : glue τ w.heap.size (fun _ => 0) w.heap.size = 0 := by unfold glue; rw [if_neg (by omega)]
    refine ⟨0, aP, aPc, glue τ w.heap.size (fun _ => 0), Nat.zero_le _, rfl, (by (exact ext_)), fun b hb => if_pos hb, g0, (by unfold glue; rw [if_neg (by omega)]), ⟨by simp; omega, ?_, ?_, ?_, ?_, ?_, ?_, ?_⟩, by simp, (by exact lbc_), ?_⟩
    case refine_8 =>
      refine OwM.keep (OwM.glueL (m := ticked m 0) (OwM.clocked hM _) (Nat.le_refl _)) fun t h1 h5 => ?_
      have g0' : glue τ w.heap.size (fun _ => 0) w.heap.size ≠ t := by rw [g0]; omega
      (with_reducible repeat (first | exact tR _ _ _ _ | apply tA | apply tD | apply tN | (apply tE; assumption) | (refine tS ?_ (by first | exact Or.inl (by first | omega | (simp only [zA, zC, zD, zN]; omega)) | exact Or.inr (by rw [g0]; decide) | exact Or.inr g0))))
    all_goals first | (simp [go_sem]; done) | (intro i; simp [go_sem]; done)
  case round =>
    obtain ⟨k, B, d, τr, hk, rfl, hb2, hτ, h0, h01, hmk, hsz, hLr, ho⟩ := hrel
    obtain ⟨k0, k1, k2, k3, k4, k5, k6, kf⟩ := hmk
    have hmk : MktAt wr w.heap.size 0 aL aLc aLn B d aPn aD aDc aDn aN aNc aNn aS aSc aSn (m.clock + 1) := ⟨k0, k1, k2, k3, k4, k5, k6, kf⟩
    simp only [Nat.zero_add] at k1 k2 k3 k4 k5 k6
    have Hτ := Lib.hid hτ
    clear hτ
    by_cases hlt : k < aDn
    · obtain ⟨y, hy⟩ : ∃ y, m.deals[k]? = some y := ⟨_, List.getElem?_eq_getElem (by have := l3.out; omega)⟩
      have hyb := backs_at (clock := m.clock + 1) hy
      obtain ⟨gD, x, hA, hloD, hltD, hx, q0, q1, q2, q3, q4, hfz⟩ := at_OD ho.deals.ow hlt
      obtain rfl : x = y := by rw [show (ticked m k).deals = backs (m.clock + 1) m.deals k from rfl, hyb] at hx; exact (Option.some.inj hx).symm
      subst hA
      have HX := Lib.hid hx
      have HY := Lib.hid hy
      clear hx hy hyb
      by_cases hh : 0 < x.buyer ∧ x.due < m.clock + 1
      case neg =>
        have e : ticked m (k + 1) = ticked m k := by
          unfold ticked
          rw [pursesTo_step HY.out, backp_n hh, backs_same HY.out (back_n hh)]
        have He := Lib.hid e; clear e
        by_cases hb1 : 0 < x.buyer
        · have hdu : ¬ x.due < m.clock + 1 := fun h => hh ⟨hb1, h⟩
          clear hh
          go_wp2_with fail
          go_roundw
          case rel =>
            exact ⟨k + 1, B, d, τr, by omega, by go_num, (by (exact ext_)), Hτ.out, h0, h01, hmk.keep (by (exact kf_)), by exact sz_, (by exact lbc_), by rw [He.out]; exact ho.keepF (by (exact kf_))⟩
          case measure => simp [intOf]; omega
        · clear hh
          go_wp2_with fail
          go_roundw
          case rel =>
            exact ⟨k + 1, B, d, τr, by omega, by go_num, (by (exact ext_)), Hτ.out, h0, h01, hmk.keep (by (exact kf_)), by exact sz_, (by exact lbc_), by rw [He.out]; exact ho.keepF (by (exact kf_))⟩
          case measure => simp [intOf]; omega
      case pos =>
        obtain ⟨hb1, hdu⟩ := hh
        go_wp2_with (go_at_call 184; apply Calls.mono; apply sMonTurn_c; (apply Rs.at0 ho.purses.rs; (exact kf_)); omega; rintro E w3 ⟨A3, c3, rfl, ho3, hb⟩; have hst := xr hb; (try simp only [zA, zC, zD, zN] at hst); obtain ⟨hc, hf, hz⟩ := hst)
        have e : ticked m (k + 1) = ⟨m.log, Sw.monTurn (ticked m k).purses x.buyer x.price, (ticked m k).deals.set k { x with buyer := 0, due := 0 }, m.clock + 1, m.nums, m.said⟩ := by
          unfold ticked
          dsimp only
          rw [pursesTo_step HY.out, backp_y hb1 hdu, ← backs_step HY.out, back_y hb1 hdu]
        have He := Lib.hid e; clear e
        have tD : τr gD = 3 := ho.deals.tag _ rfl
        have hne : gD ≠ w.heap.size := by rintro rfl; rw [h0] at tD; cases tD
        have hgS : SM lo τ gD ∨ w.heap.size ≤ gD := by
          by_cases hg : gD < w.heap.size
          · exact .inl ⟨hloD, by rw [← Hτ.out gD hg, tD]; omega, by rw [← Hτ.out gD hg, tD]; omega⟩
          · exact .inr (by omega)
        have hex : Ex wr w3 := ext_
        go_roundw
        case rel =>
          refine ⟨k + 1, A3, c3, glue τr wr.heap.size (fun _ => 2), by omega, by go_num, (by (with_reducible repeat (first | exact cR _ _ | apply cA | apply cD | apply cN | (refine cS ?_ (Or.inr (by first | omega | (simp only [zA, zC, zD, zN]; omega))) _) | (refine cS ?_ hgS _) | (apply cE; assumption) | (apply cK; assumption)))), fun b hb => (if_pos (by omega)).trans (Hτ.out b hb), (if_pos k0).trans h0, (if_pos (by omega)).trans h01, ?_, by exact sz_, (by exact lbc_), ?_⟩
          · exact (((hmk.keep (by (exact kf_))).setP A3 aPn c3).other _ hne).other _ hne
          · rw [He.out]
            exact OwM.backed ho hex (Ch.refl _ _) (ho3.less (by simp)) h0 k0 (backs_at HY.out) (by omega)
        case measure => simp [intOf]; omega
    · obtain ⟨hcr, hfr⟩ := Lb.rules hLr
      go_wp2_with fail
      refine bodyPost_ret (v := .agg #[.slice aL aLn aLc, .slice B aPn d, .slice aD aDn aDc, .int .i64 (m.clock + 1), .slice aN aNn aNc, .slice aS aSn aSc]) (by simp [results, Try.results120, go_sem, *]) rfl ?_
      obtain rfl : k = aDn := by omega
      refine ⟨B, d, τr, rfl, ?_, Hτ.out, (by (exact ext_))⟩
      rw [← ticked_all (Nat.le_of_eq l3.out.symm)]
      refine ho.keep fun t t1 t5 => ?_
      have hnt : τr (w.heap.size + 1) ≠ t := by rw [h01]; omega
      (with_reducible repeat (first | exact tR _ _ _ _ | apply tA | apply tD | apply tN | (apply tE; assumption) | (refine tS ?_ (by first | exact Or.inl (by first | omega | (simp only [zA, zC, zD, zN]; omega)) | exact Or.inr (by rw [hnt]; decide) | exact Or.inr hnt))))
end Go.Proofs.Ytncoiknpkebgoaa

namespace Go.Proofs.Ytncoiknpkebgoaa
set_option maxRecDepth 100000
set_option linter.unusedSimpArgs false
set_option linter.unusedVariables false
open Go.RowKit Go
set_option maxHeartbeats 1000000

/-- A market that holds marks from k on. -/
structure MkM (w : World) (lo : Nat) (aL : Option Addr) (aLc aLn : Nat) (aP : Option Addr) (aPc aPn : Nat) (aD : Option Addr) (aDc aDn : Nat) (aN : Option Addr) (aNc aNn : Nat) (aS : Option Addr) (aSc aSn : Nat) (k : Int) : Prop where
  log : Rd w lo aL aLc 4 aLn (FI (marks k (aLn * 4)))
  purses : RI w lo aP aPc aPn (marks (k + (aLn : Int) * 4) aPn)
  deals : Rd w lo aD aDc 5 aDn (FI (marks (k + (aLn : Int) * 4 + aPn) (aDn * 5)))
  nums : RI w lo aN aNc aNn (marks (k + (aLn : Int) * 4 + aPn + (aDn : Int) * 5) aNn)
  said : RI w lo aS aSc aSn (marks (k + (aLn : Int) * 4 + aPn + (aDn : Int) * 5 + aNn) aSn)
theorem MkM.keep {w w' : World} {lo : Nat} {aL : Option Addr} {aLc aLn : Nat} {aP : Option Addr} {aPc aPn : Nat} {aD : Option Addr} {aDc aDn : Nat} {aN : Option Addr} {aNc aNn : Nat} {aS : Option Addr} {aSc aSn : Nat} {k : Int} (h : MkM w lo aL aLc aLn aP aPc aPn aD aDc aDn aN aNc aNn aS aSc aSn k) (hk : KF lo w w') : MkM w' lo aL aLc aLn aP aPc aPn aD aDc aDn aN aNc aNn aS aSc aSn k := ⟨h.1.keep hk, h.2.keep hk, h.3.keep hk, h.4.keep hk, h.5.keep hk⟩
theorem MkM.less {w : World} {lo lo' : Nat} {aL : Option Addr} {aLc aLn : Nat} {aP : Option Addr} {aPc aPn : Nat} {aD : Option Addr} {aDc aDn : Nat} {aN : Option Addr} {aNc aNn : Nat} {aS : Option Addr} {aSc aSn : Nat} {k : Int} (h : MkM w lo aL aLc aLn aP aPc aPn aD aDc aDn aN aNc aNn aS aSc aSn k) (hl : lo' ≤ lo) : MkM w lo' aL aLc aLn aP aPc aPn aD aDc aDn aN aNc aNn aS aSc aSn k := ⟨h.1.less hl, h.2.less hl, h.3.less hl, h.4.less hl, h.5.less hl⟩
section
variable {α : Type} {enc : α → List Value} {sz : Nat} {e : TypeId} {τ : Nat → Nat} {t u : Nat} {w w' w0 : World} {lo c n : Nat} {A : Option Addr} {xs : List α}
theorem OwT.sm (h : OwT enc sz e τ t w lo A c n xs) (h1 : 1 ≤ t) (h5 : t ≤ 5) : ∀ i, atA A i → SM lo τ i := fun i ⟨a, ha, hi⟩ => by
  have hb := (h.ow.blk ha).1
  have ht := h.tag a ha
  subst hi
  exact ⟨hb, by omega, by omega⟩
/-- What is written to one slice leaves those of another mark. -/
theorem OwT.other (h : OwT enc sz e τ t w lo A c n xs) (hb : Ch (atA A) w0 w') (k : KT τ u lo w w0) (hu : u ≠ t) : KT τ u lo w w' :=
  KT.ch hb k fun i ⟨a, ha, hi⟩ => .inr (by rw [hi, h.tag a ha]; exact Ne.symm hu)
end
theorem FI_I (xs : List Int) : xs.flatMap encI = FI xs := by unfold FI; induction xs with
  | nil => rfl
  | cons x xs ih => rw [List.flatMap_cons, ih]; rfl

theorem KT.atA {τ : Nat → Nat} {t u lo : Nat} {w w0 w' : World} {B : Option Addr} (hb : Ch (atA B) w0 w') (k : KT τ t lo w w0) (tb : ∀ a, B = some a → τ a.block = u) (hu : t ≠ u) : KT τ t lo w w' :=
  KT.ch hb k fun i ⟨a, ha, hi⟩ => .inr (by rw [hi, tb a ha]; exact Ne.symm hu)
theorem OwFl.keepT {sz : Nat} {e : TypeId} {τ : Nat → Nat} {t lo c n : Nat} {w w' : World} {A : Option Addr} {zs : List Int} (h : OwFl sz e w lo A c n zs) (ta : ∀ a, A = some a → τ a.block = t) (k : KT τ t lo w w') : OwFl sz e w' lo A c n zs :=
  h.keep_ fun a ha => k.block a.block (h.blk ha).1 (h.blk ha).2 (ta a ha)
theorem Ow.keepT {α : Type} {enc : α → List Value} {sz : Nat} {e : TypeId} {τ : Nat → Nat} {t lo c n : Nat} {w w' : World} {A : Option Addr} {xs : List α} (h : Ow enc sz e w lo A c n xs) (ta : ∀ a, A = some a → τ a.block = t) (k : KT τ t lo w w') : Ow enc sz e w' lo A c n xs :=
  h.keep_ fun a ha => k.block a.block (h.blk ha).1 (h.blk ha).2 (ta a ha)

/-- A block that lies above what was turned. -/
theorem boxed_kept {A : Option Addr} {W w1 : World} {g : Nat} (hb : Ch (atA A) W w1) (hA : ∀ a, A = some a → a.block < g) (hg : g < W.heap.size) : ∀ o, w1.cell? ⟨g, o, none⟩ = W.cell? ⟨g, o, none⟩ :=
  fun o => hb.cell (p := ⟨g, o, none⟩) hg (fun ⟨a, ha, hk⟩ => absurd (hA a ha) (by rw [← hk]; exact Nat.lt_irrefl _))

theorem markMkt_c (aL : Option Addr) (aLc aLn : Nat) (aP : Option Addr) (aPc aPn : Nat) (aD : Option Addr) (aDc aDn : Nat) (aN : Option Addr) (aNc aNn : Nat) (aS : Option Addr) (aSc aSn : Nat) (m : Sw.Mkt) (lo : Nat) (τ : Nat → Nat) (k : Int) (w : World) (hM : OwM τ w lo aL aLc aLn aP aPc aPn aD aDc aDn aN aNc aNn aS aSc aSn m) (hk0 : 0 ≤ k) (hk1 : k ≤ 1048576) (hn : aLn + aPn + aDn + aNn + aSn ≤ 1048576) : Calls Try.prog 48 #[.agg #[.slice aL aLn aLc, .slice aP aPn aPc, .slice aD aDn aDc, .int .i64 m.clock, .slice aN aNn aNc, .slice aS aSn aSc], .int .i64 k] w fun E w' => E = .returned (.int .i64 (k + (aLn : Int) * 4 + aPn + (aDn : Int) * 5 + aNn + aSn)) ∧ MkM w' lo aL aLc aLn aP aPc aPn aD aDc aDn aN aNc aNn aS aSc aSn k ∧ Ch (SM lo τ) w w' := by
  have T1 := hM.log.tag
  have T2 := hM.purses.tag
  have T3 := hM.deals.tag
  have T4 := hM.nums.tag
  have T5 := hM.said.tag
  go_enter Try.func48, Try.ntmps48
  go_wp2_with fail
  apply Calls.mono
  apply (markEnt_c (lo := lo) (e := 165) (zs := m.log.flatMap Sw.Ent.ints))
  · exact OwFl.of (hM.log.ow.keep (by (exact kf_))) (fun _ => rfl) (fun _ => rfl)
  · omega
  · omega
  · omega
  rintro E w1 ⟨rfl, h1, hb1⟩
  have K2 : KT τ 2 lo w w1 := KT.atA hb1 (by (with_reducible repeat (first | exact tR _ _ _ _ | apply tA | apply tD | apply tN | (apply tE; assumption) | (refine tS ?_ (by first | exact Or.inl (by first | omega | (simp only [zA, zC, zD]; omega))))))) T1 (by decide)
  have K3 : KT τ 3 lo w w1 := KT.atA hb1 (by (with_reducible repeat (first | exact tR _ _ _ _ | apply tA | apply tD | apply tN | (apply tE; assumption) | (refine tS ?_ (by first | exact Or.inl (by first | omega | (simp only [zA, zC, zD]; omega))))))) T1 (by decide)
  have K4 : KT τ 4 lo w w1 := KT.atA hb1 (by (with_reducible repeat (first | exact tR _ _ _ _ | apply tA | apply tD | apply tN | (apply tE; assumption) | (refine tS ?_ (by first | exact Or.inl (by first | omega | (simp only [zA, zC, zD]; omega))))))) T1 (by decide)
  have K5 : KT τ 5 lo w w1 := KT.atA hb1 (by (with_reducible repeat (first | exact tR _ _ _ _ | apply tA | apply tD | apply tN | (apply tE; assumption) | (refine tS ?_ (by first | exact Or.inl (by first | omega | (simp only [zA, zC, zD]; omega))))))) T1 (by decide)
  have c1 : Ch (SM lo τ) w w1 := (show Ch (SM lo τ) w _ from (by (with_reducible repeat (first | exact cR _ _ | apply cA | apply cD | apply cN | (refine cS ?_ (Or.inr (by first | omega | (simp only [zA, zC, zD]; omega))) _) | (apply cE; assumption) | (apply cK; assumption))))).trans (hb1.mono (T := SM lo τ) (fun i _ hi => hM.log.sm (by decide) (by decide) i hi))
  have x1 := boxed_kept (g := w.heap.size) hb1 (fun a ha => (hM.log.ow.blk ha).2) (by exact sz_)
  have z1 := hb1.size
  (try simp only [zA, zC, zD] at z1)
  clear hb1
  go_wp2_with fail
  apply Calls.mono
  apply (markIntS_c (lo := lo) (xs := m.purses))
  · exact (hM.purses.keep K2).ow
  · omega
  · omega
  · omega
  rintro E w2 ⟨rfl, h2, hb2⟩
  replace h1 := h1.keepT T1 (KT.atA hb2 (KT.refl _ _ _ _) T2 (by decide))
  replace K3 := KT.atA hb2 K3 T2 (by decide)
  replace K4 := KT.atA hb2 K4 T2 (by decide)
  replace K5 := KT.atA hb2 K5 T2 (by decide)
  replace c1 := c1.trans (hb2.mono (T := SM lo τ) (fun i _ hi => hM.purses.sm (by decide) (by decide) i hi))
  have x2 := boxed_kept (g := w.heap.size) hb2 (fun a ha => (hM.purses.ow.blk ha).2) (by exact sz_)
  have z2 := hb2.size
  (try simp only [zA, zC, zD] at z2)
  clear hb2
  go_wp2_with fail
  apply Calls.mono
  apply (markDeal_c (lo := lo) (e := 103) (zs := m.deals.flatMap Sw.Deal.ints))
  · exact OwFl.of (hM.deals.keep K3).ow (fun _ => rfl) (fun _ => rfl)
  · omega
  · omega
  · omega
  rintro E w3 ⟨rfl, h3, hb3⟩
  replace h1 := h1.keepT T1 (KT.atA hb3 (KT.refl _ _ _ _) T3 (by decide))
  replace h2 := h2.keepT T2 (KT.atA hb3 (KT.refl _ _ _ _) T3 (by decide))
  replace K4 := KT.atA hb3 K4 T3 (by decide)
  replace K5 := KT.atA hb3 K5 T3 (by decide)
  replace c1 := c1.trans (hb3.mono (T := SM lo τ) (fun i _ hi => hM.deals.sm (by decide) (by decide) i hi))
  have x3 := boxed_kept (g := w.heap.size) hb3 (fun a ha => (hM.deals.ow.blk ha).2) (by exact sz_)
  have z3 := hb3.size
  (try simp only [zA, zC, zD] at z3)
  clear hb3
  go_wp2_with fail
  apply Calls.mono
  apply (markIntS_c (lo := lo) (xs := m.nums))
  · exact (hM.nums.keep K4).ow
  · omega
  · omega
  · omega
  rintro E w4 ⟨rfl, h4, hb4⟩
  replace h1 := h1.keepT T1 (KT.atA hb4 (KT.refl _ _ _ _) T4 (by decide))
  replace h2 := h2.keepT T2 (KT.atA hb4 (KT.refl _ _ _ _) T4 (by decide))
  replace h3 := h3.keepT T3 (KT.atA hb4 (KT.refl _ _ _ _) T4 (by decide))
  replace K5 := KT.atA hb4 K5 T4 (by decide)
  replace c1 := c1.trans (hb4.mono (T := SM lo τ) (fun i _ hi => hM.nums.sm (by decide) (by decide) i hi))
  have x4 := boxed_kept (g := w.heap.size) hb4 (fun a ha => (hM.nums.ow.blk ha).2) (by exact sz_)
  have z4 := hb4.size
  (try simp only [zA, zC, zD] at z4)
  clear hb4
  go_wp2_with fail
  apply Calls.mono
  apply (markIntS_c (lo := lo) (xs := m.said))
  · exact (hM.said.keep K5).ow
  · omega
  · omega
  · omega
  rintro E w5 ⟨rfl, h5, hb5⟩
  replace h1 := h1.keepT T1 (KT.atA hb5 (KT.refl _ _ _ _) T5 (by decide))
  replace h2 := h2.keepT T2 (KT.atA hb5 (KT.refl _ _ _ _) T5 (by decide))
  replace h3 := h3.keepT T3 (KT.atA hb5 (KT.refl _ _ _ _) T5 (by decide))
  replace h4 := h4.keepT T4 (KT.atA hb5 (KT.refl _ _ _ _) T5 (by decide))
  replace c1 := c1.trans (hb5.mono (T := SM lo τ) (fun i _ hi => hM.said.sm (by decide) (by decide) i hi))
  have x5 := boxed_kept (g := w.heap.size) hb5 (fun a ha => (hM.said.ow.blk ha).2) (by exact sz_)
  have z5 := hb5.size
  (try simp only [zA, zC, zD] at z5)
  clear hb5
  go_wp2_with fail
  go_ret
  exact ⟨rfl, ⟨h1.rd, h2.rs, h3.rd, h4.rs, h5.rs⟩, c1⟩

theorem heldMkt_c (aL : Option Addr) (aLc aLn : Nat) (aP : Option Addr) (aPc aPn : Nat) (aD : Option Addr) (aDc aDn : Nat) (aN : Option Addr) (aNc aNn : Nat) (aS : Option Addr) (aSc aSn : Nat) (v : Int) (lo : Nat) (k : Int) (w : World) (hM : MkM w lo aL aLc aLn aP aPc aPn aD aDc aDn aN aNc aNn aS aSc aSn k) (hk0 : 0 ≤ k) (hk1 : k ≤ 1048576) (hn : aLn + aPn + aDn + aNn + aSn ≤ 1048576) : Calls Try.prog 49 #[.agg #[.slice aL aLn aLc, .slice aP aPn aPc, .slice aD aDn aDc, .int .i64 v, .slice aN aNn aNc, .slice aS aSn aSc], .int .i64 k] w fun E w' => E = .returned (.int .i64 (k + (aLn : Int) * 4 + aPn + (aDn : Int) * 5 + aNn + aSn)) ∧ Ex w w' := by
  obtain ⟨h1, h2, h3, h4, h5⟩ := hM
  go_enter Try.func49, Try.ntmps49
  go_wp2_with (first | (go_at_call 129; apply Calls.mono; apply heldEnt_c; (apply Rd.keep h1; (exact kf_)); omega; omega; omega; rintro E w' ⟨rfl, rfl⟩) | (go_at_call 131; apply Calls.mono; apply heldDeal_c; (apply Rd.keep h3; (exact kf_)); omega; omega; omega; rintro E w' ⟨rfl, rfl⟩) | (go_at_call 130; apply Calls.mono; apply heldIntS_c; (apply Rs.at0 h2; (exact kf_)); omega; omega; omega; rintro E w' ⟨rfl, rfl⟩) | (go_at_call 130; apply Calls.mono; apply heldIntS_c; (apply Rs.at0 h4; (exact kf_)); omega; omega; omega; rintro E w' ⟨rfl, rfl⟩) | (go_at_call 130; apply Calls.mono; apply heldIntS_c; (apply Rs.at0 h5; (exact kf_)); omega; omega; omega; rintro E w' ⟨rfl, rfl⟩))
  all_goals (go_ret; exact ⟨rfl, ext_⟩)
end Go.Proofs.Ytncoiknpkebgoaa

namespace Go.Proofs.Ytncoiknpkebgoaa
set_option maxRecDepth 100000
set_option linter.unusedSimpArgs false
set_option linter.unusedVariables false
open Go.RowKit Go
set_option maxHeartbeats 1000000

def mkG (k : Int) : Nat → List GV
  | 0 => []
  | j + 1 => mkG k j ++ [gv0 ⟨k + (j : Int) * 3, k + (j : Int) * 3 + 1, k + (j : Int) * 3 + 1 + 1⟩]
theorem mkG_len (k : Int) : ∀ j, (mkG k j).length = j
  | 0 => rfl
  | j + 1 => by rw [mkG, List.length_append, mkG_len k j]; rfl
theorem mkG_at (k : Int) : ∀ n j : Nat, j < n → (mkG k n)[j]? = some (gv0 ⟨k + (j : Int) * 3, k + (j : Int) * 3 + 1, k + (j : Int) * 3 + 1 + 1⟩)
  | 0, j, h => by omega
  | n + 1, j, h => by
    rw [mkG]
    by_cases hj : j < n
    · rw [List.getElem?_append_left (by rw [mkG_len]; exact hj)]; exact mkG_at k n j hj
    · have : j = n := by omega
      subst this
      rw [List.getElem?_append_right (by rw [mkG_len]; exact Nat.le_refl _), mkG_len, Nat.sub_self]; rfl
section
variable {w w' : World} {lo c n k : Nat} {A : Option Addr}
theorem OwG_set3 {xs : List GV} (h : OwGV w lo A c n xs) {g : Nat} (hA : A = some ⟨g, 0, none⟩) {x : GV} (hx : xs[k]? = some x) (a b d : Int) :
    OwGV (((w.setCell ⟨g, k * 4, none⟩ (.int .i64 a)).setCell ⟨g, k * 4 + 1, none⟩ (.int .i64 b)).setCell ⟨g, k * 4 + 2, none⟩ (.int .i64 d)) lo A c n (xs.set k ⟨⟨a, b, d⟩, x.A, x.c, x.n⟩) := by
  have hk : k < xs.length := (List.getElem?_eq_some_iff.1 hx).1
  have h1 := Ow.set h (fun _ => rfl) (j := 0) (u := .int .i64 a) hA hx (by omega) (y := ⟨⟨a, x.h.log, x.h.own⟩, x.A, x.c, x.n⟩) rfl
  have h2 := Ow.set h1 (fun _ => rfl) (j := 1) (u := .int .i64 b) (k := k) (x := ⟨⟨a, x.h.log, x.h.own⟩, x.A, x.c, x.n⟩) hA (by rw [List.getElem?_set]; simp [hk]) (by omega) (y := ⟨⟨a, b, x.h.own⟩, x.A, x.c, x.n⟩) rfl
  have h3 := Ow.set h2 (fun _ => rfl) (j := 2) (u := .int .i64 d) (k := k) (x := ⟨⟨a, b, x.h.own⟩, x.A, x.c, x.n⟩) hA (by rw [List.getElem?_set]; simp [hk]) (by omega) (y := ⟨⟨a, b, d⟩, x.A, x.c, x.n⟩) rfl
  simpa only [List.set_set, Nat.add_zero] using h3
end
theorem mkG_step {k : Int} {j n : Nat} {vs : List GV} (hn : n = vs.length) (hj : j < n) (h0 : ∀ v ∈ vs, v.A = none ∧ v.c = 0 ∧ v.n = 0) :
    ∃ x, (mkG k j ++ vs.drop j)[j]? = some x ∧ x.A = none ∧ x.c = 0 ∧ x.n = 0 ∧ (mkG k j ++ vs.drop j).set j ⟨⟨k + (j : Int) * 3, k + (j : Int) * 3 + 1, k + (j : Int) * 3 + 1 + 1⟩, x.A, x.c, x.n⟩ = mkG k (j + 1) ++ vs.drop (j + 1) := by
  have hj' : j < vs.length := by omega
  refine ⟨vs[j], ?_, (h0 _ (List.getElem_mem hj')).1, (h0 _ (List.getElem_mem hj')).2.1, (h0 _ (List.getElem_mem hj')).2.2, ?_⟩
  · rw [List.getElem?_append_right (by rw [mkG_len]; exact Nat.le_refl _), mkG_len, Nat.sub_self, List.getElem?_drop, Nat.add_zero, List.getElem?_eq_getElem hj']
  · rw [List.set_append_right _ _ (by rw [mkG_len]; exact Nat.le_refl _), mkG_len, Nat.sub_self, List.drop_eq_getElem_cons hj', List.set_cons_zero, mkG, List.append_assoc, (h0 _ (List.getElem_mem hj')).1, (h0 _ (List.getElem_mem hj')).2.1, (h0 _ (List.getElem_mem hj')).2.2]
    rfl

theorem markGates_c (A : Option Addr) (c n lo : Nat) (vs : List GV) (k : Int) (w : World) (h : OwGV w lo A c n vs) (h0 : ∀ v ∈ vs, v.A = none ∧ v.c = 0 ∧ v.n = 0) (hk0 : 0 ≤ k) (hk1 : k ≤ 33554432) (hn : n ≤ 4194304) : Calls Try.prog 151 #[.slice A n c, .int .i64 k] w fun E w' => E = .returned (.int .i64 (k + (n : Int) * 3)) ∧ OwGV w' lo A c n (mkG k n) ∧ Ch (atA A) w w' := by
  go_enter Try.func151, Try.ntmps151
  go_wp2_with fail
  go_loopw [5, 1] (fun i kk wr => ∃ j : Nat, j ≤ n ∧ i = .int .i64 j ∧ kk = .int .i64 (k + (j : Int) * 3) ∧ Ch (atA A) w wr ∧ OwGV wr lo A c n (mkG k j ++ vs.drop j)) (fun i _ _ => n - (intOf i).toNat)
  case atStart => exact ⟨0, Nat.zero_le _, rfl, by simp, Ch.refl _ _, by simpa [mkG] using h⟩
  case round =>
    obtain ⟨j, hj, rfl, rfl, hb2, hrel⟩ := hrel
    by_cases hlt : j < n
    · obtain ⟨x, hx, x1, x2, x3, hset⟩ := mkG_step (k := k) h.1 hlt h0
      obtain ⟨g0, y, rfl, hlo0, hlt0, hx', q, hfr⟩ := Ow.at_ hrel (fun _ => rfl) hlt
      obtain rfl : x = y := Option.some.inj (hx.symm.trans hx')
      have Hs := OwG_set3 hrel rfl hx (k + (j : Int) * 3) (k + (j : Int) * 3 + 1) (k + (j : Int) * 3 + 1 + 1)
      rw [hset] at Hs
      replace Hs := Lib.hid Hs
      have q0 := q 0 _ (by omega) rfl
      have q1 := q 1 _ (by omega) rfl
      have q2 := q 2 _ (by omega) rfl
      have q3 := q 3 _ (by omega) rfl
      rw [x1, x2, x3] at q3
      rw [Nat.add_zero] at q0
      have Hb := Lib.hid hb2
      clear hrel hb2 q hx hx' hset x1 x2 x3
      go_wp2_with (go_at_call 59; apply Calls.mono; apply (markIntS_c (lo := 0) (xs := [])); exact Ow.nil _ _; omega; omega; omega; rintro E w1 ⟨rfl, -, hbk⟩; have hbk := (hbk.mono (T := fun _ => False) (fun i _ hi => by obtain ⟨a, ha, _⟩ := hi; cases ha)); have hst := Ex.rules hbk rfl; obtain ⟨hcM, hfM, hzM⟩ := hst)
      go_roundw
      case rel =>
        refine ⟨j + 1, by omega, by go_num, int_i (by omega), ?_, ?_⟩
        · refine Ch.trans' ?_ hbk (fun i _ h => h.elim)
          have hA0 : atA (some ⟨g0, 0, none⟩) g0 := ⟨_, rfl, rfl⟩
          with_reducible repeat (first | exact Hb.out | (refine cS ?_ (Or.inl hA0) _))
        · exact Hs.out.keep (kE hbk (kR _ _))
      case measure => simp [intOf]; omega
    · have Hrel := Lib.hid hrel; clear hrel
      go_wp2_with fail
      go_ret
      obtain rfl : j = n := by omega
      have := Hrel.out
      rw [List.drop_of_length_le (by have := h.1; omega), List.append_nil] at this
      exact ⟨rfl, this, hb2⟩
theorem heldGates_c (A : Option Addr) (c n : Nat) (k : Int) (w : World) (h : Rs GV.enc 4 w 0 A c n (mkG k n)) (hk0 : 0 ≤ k) (hk1 : k ≤ 33554432) (hn : n ≤ 4194304) : Calls Try.prog 154 #[.slice A n c, .int .i64 k] w fun E w' => E = .returned (.int .i64 (k + (n : Int) * 3)) ∧ w = w' := by
  have hle := h.2.le
  go_enter Try.func154, Try.ntmps154
  go_wp2_with fail
  go_loop [5, 1] (fun i kk => ∃ j : Nat, j ≤ n ∧ i = .int .i64 j ∧ kk = .int .i64 (k + (j : Int) * 3)) (fun i _ => n - (intOf i).toNat)
  case atStart => exact ⟨0, Nat.zero_le _, rfl, by simp⟩
  case round =>
    obtain ⟨j, hj, rfl, rfl⟩ := hrel
    by_cases hlt : j < n
    · obtain ⟨g, off, y, rfl, h1, h2, h3, h4, q⟩ := Rs.at_ h (fun _ => rfl) hlt
      obtain rfl : gv0 ⟨k + (j : Int) * 3, k + (j : Int) * 3 + 1, k + (j : Int) * 3 + 1 + 1⟩ = y := Option.some.inj ((mkG_at k n j hlt).symm.trans h4)
      have q0 := q 0 _ (by omega) rfl
      have q1 := q 1 _ (by omega) rfl
      have q2 := q 2 _ (by omega) rfl
      have q3 := q 3 _ (by omega) rfl
      simp only [gv0, Nat.add_zero, ← Nat.add_assoc] at q0 q1 q2 q3
      clear q h3 h4
      go_wp2_with (go_at_call 130; apply Calls.mono; apply heldIntS_c; exact (Ow.nil (enc := encI) (sz := 1) (e := 3) _ 0).rs; omega; omega; omega; rintro E w1 ⟨rfl, rfl⟩)
      go_round
      case rel => exact ⟨j + 1, by omega, by go_num, int_i (by omega)⟩
      case measure => simp [intOf]; omega
    · go_wp2_with fail
      go_ret
      obtain rfl : j = n := by omega
      exact ⟨rfl, rfl⟩
theorem markLines0_c (k : Int) (w : World) : Calls Try.prog 150 #[.slice none 0 0, .int .i64 k] w fun E w' => E = .returned (.int .i64 k) ∧ Ex w w' := by
  go_enter Try.func150, Try.ntmps150
  go_wp2_with fail
  go_loop [5, 1] (fun i kk => i = .int .i64 0 ∧ kk = .int .i64 k) (fun _ _ => 0)
  case atStart => exact ⟨rfl, rfl⟩
  case round =>
    obtain ⟨rfl, rfl⟩ := hrel
    go_wp2_with fail
    go_ret
    exact ⟨rfl, ext_⟩
theorem heldLines0_c (k : Int) (w : World) : Calls Try.prog 153 #[.slice none 0 0, .int .i64 k] w fun E w' => E = .returned (.int .i64 k) ∧ Ex w w' := by
  go_enter Try.func153, Try.ntmps153
  go_wp2_with fail
  go_loop [5, 1] (fun i kk => i = .int .i64 0 ∧ kk = .int .i64 k) (fun _ _ => 0)
  case atStart => exact ⟨rfl, rfl⟩
  case round =>
    obtain ⟨rfl, rfl⟩ := hrel
    go_wp2_with fail
    go_ret
    exact ⟨rfl, ext_⟩
theorem markMsgs0_c (k : Int) (w : World) : Calls Try.prog 152 #[.slice none 0 0, .int .i64 k] w fun E w' => E = .returned (.int .i64 k) ∧ Ex w w' := by
  go_enter Try.func152, Try.ntmps152
  go_wp2_with fail
  go_loop [5, 1] (fun i kk => i = .int .i64 0 ∧ kk = .int .i64 k) (fun _ _ => 0)
  case atStart => exact ⟨rfl, rfl⟩
  case round =>
    obtain ⟨rfl, rfl⟩ := hrel
    go_wp2_with fail
    go_ret
    exact ⟨rfl, ext_⟩
theorem heldMsgs0_c (k : Int) (w : World) : Calls Try.prog 155 #[.slice none 0 0, .int .i64 k] w fun E w' => E = .returned (.int .i64 k) ∧ Ex w w' := by
  go_enter Try.func155, Try.ntmps155
  go_wp2_with fail
  go_loop [5, 1] (fun i kk => i = .int .i64 0 ∧ kk = .int .i64 k) (fun _ _ => 0)
  case atStart => exact ⟨rfl, rfl⟩
  case round =>
    obtain ⟨rfl, rfl⟩ := hrel
    go_wp2_with fail
    go_ret
    exact ⟨rfl, ext_⟩
end Go.Proofs.Ytncoiknpkebgoaa

