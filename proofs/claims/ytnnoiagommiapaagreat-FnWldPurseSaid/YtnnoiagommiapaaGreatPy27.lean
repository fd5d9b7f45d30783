/- Texts joined: WldNw. -/
import Derived.Test.YtnnoiagommiapaaGreatPy21
import Derived.Test.YtnnoiagommiapaaGreatPy19
import Derived.Test.YtnnoiagommiapaaGreatPy23
set_option maxRecDepth 100000
set_option linter.unusedSimpArgs false
set_option linter.unusedVariables false
namespace Go.Proofs.YtnnoiagommiapaaGreat
open Go.RowKit Go
set_option maxHeartbeats 8000000
theorem ne_off {g i j : Nat} (h : i ≠ j) : (⟨g, i, none⟩ : Addr) ≠ ⟨g, j, none⟩ := fun e => h (congrArg Addr.off e)
theorem WN.zero {τ : Nat → Nat} {w : World} {lo : Nat} : WN τ w lo none 0 0 none 0 0 none 0 0 none 0 0 none 0 0 none 0 0 none 0 0 Sw.worldZ := ⟨OwT.nil .., OwM.zero, OwT.nil .., by intro g hg; simp [Sw.worldZ] at hg, rfl, rfl⟩
theorem low_keep {S : Nat → Prop} {wr X w2 : World} {lo g : Nat} (_ : Ch S X w2) (hlow : ∀ b, b < lo → w2.heap[b]? = X.heap[b]?) (k : KF 0 wr X) (hg : g < lo) (hl : g < wr.heap.size) : ∀ j, w2.cell? ⟨g, j, none⟩ = wr.cell? ⟨g, j, none⟩ :=
 fun j => (World.cell?_of_block (w := X) (a := ⟨g, j, none⟩) (hlow g hg)).trans (World.cell?_of_block (w := wr) (a := ⟨g, j, none⟩) (k.block g (Nat.zero_le _) hl))
structure NewWS (A : Option Addr) (c : Nat) (xs : List Int) (g3 : Nat) (bL : Option Addr) (bLc bLn : Nat) (bP : Option Addr) (bPc bPn : Nat) (bD : Option Addr) (bDc bDn : Nat) (bN : Option Addr) (bNc bNn : Nat) (bS : Option Addr) (bSc bSn : Nat) (K : Int) (w W0 : World) (n : Nat) (l : Array Bool) (a : Act) (wx : World) : Prop where
 keep : KF 0 w wx
 held : HeldB (w.heap.size) 10 W0 wx
 up : W0.heap.size ≤ wx.heap.size
 st : ∃ (l0 r0 r1 r2 : Bool) (v0 u0 u1 u2 : Value) (τ : Nat → Nat), n = cb l0 + cb r0 + cb r1 + cb r2 ∧ l = #[l0, true, r0, true, r2, r1, false] ∧ a = ⟨#[.slice A 5 c, undef, .pointer (some ⟨w.heap.size, 0, none⟩), .pointer (some ⟨g3, 0, none⟩), u1, undef, .slice A 5 c, .agg #[.slice bL bLn bLc, .slice bP bPn bPc, .slice bD bDn bDc, .int .i64 K, .slice bN bNn bNc, .slice bS bSn bSc], .pointer (some ⟨g3, 1, none⟩), .slice bP bPn bPc, .int .i64 5, .bool false, undef, v0, .slice A 5 c, u0, .agg #[.slice bL bLn bLc, .slice bP bPn bPc, .slice bD bDn bDc, .int .i64 K, .slice bN bNn bNc, .slice bS bSn bSc], u2, undef, undef, undef, undef, undef, undef, undef, undef, undef, undef, undef], []⟩ ∧ CopySt encI 1 3 τ 6 wx W0.heap.size 5 xs l0 r0 v0 u0 ∧ AllocSt τ 7 wx W0.heap.size 10 r1 u1 ∧ BuildSt (fun u => .agg #[u, .slice bL bLn bLc, .slice bP bPn bPc, .slice bD bDn bDc, .int .i64 K, .slice bN bNn bNc, .slice bS bSn bSc, .slice none 0 0, .slice none 0 0, .slice none 0 0]) u0 r0 r2 u2
structure NewWI (A : Option Addr) (c : Nat) (xs : List Int) (g3 : Nat) (bL : Option Addr) (bLc bLn : Nat) (bP : Option Addr) (bPc bPn : Nat) (bD : Option Addr) (bDc bDn : Nat) (bN : Option Addr) (bNc bNn : Nat) (bS : Option Addr) (bSc bSn : Nat) (K : Int) (w W0 : World) (n : Nat) (l : Array Bool) (a : Act) (wx : World) : Prop where
 keep : KF 0 w wx
 held : HeldB (w.heap.size) 10 W0 wx
 up : W0.heap.size ≤ wx.heap.size
 st : ∃ (r0 r1 r2 : Bool) (u0 u1 u2 : Value) (τ : Nat → Nat), n = cb r0 + cb r1 + cb r2 ∧ l = #[true, r0, true, r2, r1, false] ∧ a = ⟨#[.slice A 5 c, undef, .pointer (some ⟨w.heap.size, 0, none⟩), .pointer (some ⟨g3, 0, none⟩), u1, .slice A 5 c, .agg #[.slice bL bLn bLc, .slice bP bPn bPc, .slice bD bDn bDc, .int .i64 K, .slice bN bNn bNc, .slice bS bSn bSc], .pointer (some ⟨g3, 1, none⟩), .slice bP bPn bPc, .int .i64 5, .bool false, undef, .slice A 5 c, u0, .agg #[.slice bL bLn bLc, .slice bP bPn bPc, .slice bD bDn bDc, .int .i64 K, .slice bN bNn bNc, .slice bS bSn bSc], u2, undef, undef, undef, undef, undef, undef, undef, undef, undef, undef], []⟩ ∧ MakeSt encI 1 3 τ 6 wx W0.heap.size 5 xs r0 u0 ∧ AllocSt τ 7 wx W0.heap.size 10 r1 u1 ∧ BuildSt (fun u => .agg #[u, .slice bL bLn bLc, .slice bP bPn bPc, .slice bD bDn bDc, .int .i64 K, .slice bN bNn bNc, .slice bS bSn bSc, .slice none 0 0, .slice none 0 0, .slice none 0 0]) u0 r0 r2 u2
theorem sWldNew_c (A : Option Addr) (c n : Nat) (xs : List Int) (w : World) (hxs : RI w 0 A c n xs) : Calls Tryz.prog 171 #[.slice A n c] w fun E w' => ∃ F Fc Fn bL bLc bLn bP bPc bPn bD bDc bDn bN bNc bNn bS bSc bSn G Gc Gn τ, E = .returned (.agg #[.slice F Fn Fc, .slice bL bLn bLc, .slice bP bPn bPc, .slice bD bDn bDc, .int .i64 (Sw.wldNew xs).market.clock, .slice bN bNn bNc, .slice bS bSn bSc, .slice none 0 0, .slice G Gn Gc, .slice none 0 0]) ∧ WN τ w' w.heap.size F Fc Fn bL bLc bLn bP bPc bPn bD bDc bDn bN bNc bNn bS bSc bSn G Gc Gn (Sw.wldNew xs) ∧ Ex w w' := by
 by_cases gv : (Sw.monOk xs && decide (Sw.monSum xs ≤ 100000)) = true
 case neg =>
   have e : Sw.wldNew xs = Sw.worldZ := by unfold Sw.wldNew; rw [if_neg gv]
   have em : Sw.mktNew xs = Sw.mktZ := by unfold Sw.mktNew; rw [if_neg gv]
   have He := Lib.hid e; have Hm := Lib.hid em; clear e em gv
   go_enter Tryz.func171, Tryz.ntmps171
   go_wp2_with fail
   apply Calls.mono
   apply sMktNew_c
   · apply Rs.at0 hxs; (exact kf_)
   rintro E w1 ⟨bL, bLc, bLn, bP, bPc, bPn, bD, bDc, bDn, bN, bNc, bNn, bS, bSc, bSn, τm, rfl, hoM, hb⟩
   obtain rfl : bPn = 0 := by have := hoM.purses.ow.1; rw [Hm.out] at this; exact this
   obtain ⟨hc, hf, hz⟩ := xy hb
   go_wp2_with fail
   refine bodyPost_ret (v := .agg #[.slice none 0 0, .slice none 0 0, .slice none 0 0, .slice none 0 0, .int .i64 0, .slice none 0 0, .slice none 0 0, .slice none 0 0, .slice none 0 0, .slice none 0 0]) (by simp [results, Tryz.results171, go_sem, *]) rfl ?_
   refine ⟨_, _, _, _, _, _, _, _, _, _, _, _, _, _, _, _, _, _, _, _, _, fun _ => 0, by rw [He.out]; rfl, ?_, ext_⟩
   rw [He.out]
   exact WN.zero
 have e : Sw.wldNew xs = ⟨xs, Sw.mktNew xs, [], [Sw.gatNew, Sw.gatNew], []⟩ := by unfold Sw.wldNew; rw [if_pos gv]
 have em : Sw.mktNew xs = ⟨[], xs, [], 0, [0, 0, 0, 0, 0], [0, 0, 0, 0, 0]⟩ := by unfold Sw.mktNew; rw [if_pos gv]
 have h5 : xs.length = 5 := monOk_len (Bool.and_eq_true_iff.1 gv).1
 have hn5 : n = 5 := by rw [hxs.1, h5]
 subst hn5
 have He := Lib.hid e; have Hm := Lib.hid em; have H5 := Lib.hid h5; clear e em gv h5
 go_enter Tryz.func171, Tryz.ntmps171
 go_wp2_with fail
 apply Calls.mono
 apply sMktNew_c
 · apply Rs.at0 hxs; (exact kf_)
 rintro E w1 ⟨bL, bLc, bLn, bP, bPc, bPn, bD, bDc, bDn, bN, bNc, bNn, bS, bSc, bSn, τm, rfl, hoM, hb⟩
 have hbM := hb
 obtain rfl : bPn = 5 := by have := hoM.purses.ow.1; rw [Hm.out] at this; exact this.trans H5.out
 obtain ⟨hc, hf, hz⟩ := xy hb
 go_wp2_with fail
 (refine wn_ fun W0 hb0 hc0 hf0 hz0 => ?_; have hLb : Lb W0 (w.heap.size) 10 := Lb.ex (by exact lbc_) hb0; refine wp_region_held_drew (S := fun w' => HeldB (w.heap.size) 10 W0 w') (by kernel_rfl) ?_ (fun hHeld => ?_); (focus ((try dsimp only); (exact hqb_))); refine regT 1 14 (v := ?_) rfl rfl (by kernel_rfl) (by kernel_rfl) (by kernel_rfl) (fun _ _ _ h => h) (by rfl) ?_ (by assumption) ?_; rotate_left; (focus (intro w hSw; (try dsimp only at hSw); (try (have hst := xc (HeldB.ch hSw); (try simp only [zq_] at hst); obtain ⟨hcS, hfS, hzS⟩ := hst)); go_simp; (try with_reducible rfl))); (try simp only [Act.put, pz_]); refine regT 3 16 (v := ?_) rfl rfl (by kernel_rfl) (by kernel_rfl) (by kernel_rfl) (fun _ _ _ h => h) (by rfl) ?_ (by assumption) ?_; rotate_left; (focus (intro w hSw; (try dsimp only at hSw); (try (have hst := xc (HeldB.ch hSw); (try simp only [zq_] at hst); obtain ⟨hcS, hfS, hzS⟩ := hst)); go_simp; (try with_reducible rfl))); (try simp only [Act.put, pz_]))
 have hlt0 : w.heap.size < W0.heap.size := hLb.lt
 refine wpAnyH_inv (Inv := NewWS A c xs w1.heap.size bL bLc bLn bP bPc 5 bD bDc bDn bN bNc bNn bS bSc bSn (Sw.mktNew xs).clock w W0) (k := 1) ?_ ?_ ?_ 4 _ _ _ ?_
 case refine_4 =>
   exact ⟨by (exact kf_), hHeld, Nat.le_refl _, false, false, false, false, undef, undef, undef, undef, fun _ => 0, rfl, by kernel_rfl, rfl, .none _ _, .none _, .none _ _⟩
 case refine_1 =>
   rintro l a wx ⟨hk, hHeld, hup, l0, r0, r1, r2, v0, u0, u1, u2, τ, hn0, rfl, rfl, C0, C1, C2⟩
   obtain rfl : l0 = true := by cases l0 <;> first | rfl | (exfalso; revert hn0; simp [cb]; done) | (exfalso; revert hn0; simp [cb]; omega)
   obtain rfl : r0 = true := by cases r0 <;> first | rfl | (exfalso; revert hn0; simp [cb]; done) | (exfalso; revert hn0; simp [cb]; omega)
   obtain rfl : r1 = true := by cases r1 <;> first | rfl | (exfalso; revert hn0; simp [cb]; done) | (exfalso; revert hn0; simp [cb]; omega)
   obtain rfl : r2 = true := by cases r2 <;> first | rfl | (exfalso; revert hn0; simp [cb]; done) | (exfalso; revert hn0; simp [cb]; omega)
   obtain rfl : u2 = (fun u => .agg #[u, .slice bL bLn bLc, .slice bP 5 bPc, .slice bD bDn bDc, .int .i64 (Sw.mktNew xs).clock, .slice bN bNn bNc, .slice bS bSn bSc, .slice none 0 0, .slice none 0 0, .slice none 0 0]) u0 := by (cases C2; rfl)
   obtain ⟨A0, c0, rfl, t0⟩ : ∃ A c, u0 = .slice A 5 c ∧ OwT encI 1 3 τ 6 wx W0.heap.size A c 5 xs := by (cases C0; exact ⟨_, _, rfl, by assumption⟩)
   obtain ⟨g1, rfl, hg1, hLg1, ht1⟩ : ∃ g, u1 = .pointer (some ⟨g, 0, none⟩) ∧ W0.heap.size ≤ g ∧ Lb wx g 10 ∧ τ g = 7 := by (cases C1; exact ⟨_, rfl, by assumption, by assumption, by assumption⟩)
   clear C0 C1 C2 hn0
   refine wpAnyH_ready (rs := [6]) (by kernel_rfl) (by simp) ?_
   refine AllReadyH.cons rfl (fun K hK => ?_) ?_
   rotate_left
   focus exact AllReadyH.nil
   have hLbx := hLg1
   obtain ⟨hcx, hfx⟩ := Lb.rules hLbx
   go_simp
   refine hK.out _ _ ?_ (fun hHx => ?_)
   focus ((exact hqb_))
   have hb := hHeld.ch
   clear hK K hHeld hcx hfx hLbx
   (obtain ⟨hc, hf, hz⟩ := xd hb)
   have hLb3 := HeldB.lb hHx
   repeat (replace hLb3 := Lb.unset hLb3)
   obtain ⟨hcb, hfb⟩ := Lb.rules hLg1
   have hbf := HeldB.ch hHx
   clear hHx
   refine wpAnyH_done (by kernel_rfl) ?_ _
   go_wp2_with fail
   (refine wn_ fun W0 hb0 hc0 hf0 hz0 => ?_)
   have hLb : Lb W0 g1 10 := Lb.ex (by exact lbc_) hb0
   have hgW : g1 < W0.heap.size := hLb.lt
   have hLw : Lb W0 w.heap.size 10 := Lb.ex (by exact lbc_) hb0
   have q0 : W0.cell? ⟨g1, 0, none⟩ = some (.slice A0 5 c0) := by ((refine (World.cell?_of_block (a := ⟨g1, 0, none⟩) (hb0.block g1 (by simpa [World.setCell] using hLg1.lt) (fun h => h))).trans ?_); (repeat (first | (refine (World.cell?_setCell_other _ _ _ _ (ne_off ?_)).trans ?_; focus decide) | fail)); refine World.cell?_setCell_same _ _ _ (u := peek wx ⟨g1, 0, none⟩) ?_; (repeat (first | (refine (World.cell?_setCell_other _ _ _ _ (ne_off ?_)).trans ?_; focus decide) | fail)); exact hcb 0 (by decide))
   have q1 : W0.cell? ⟨g1, 1, none⟩ = some (.slice bL bLn bLc) := by ((refine (World.cell?_of_block (a := ⟨g1, 1, none⟩) (hb0.block g1 (by simpa [World.setCell] using hLg1.lt) (fun h => h))).trans ?_); (repeat (first | (refine (World.cell?_setCell_other _ _ _ _ (ne_off ?_)).trans ?_; focus decide) | fail)); refine World.cell?_setCell_same _ _ _ (u := peek wx ⟨g1, 1, none⟩) ?_; (repeat (first | (refine (World.cell?_setCell_other _ _ _ _ (ne_off ?_)).trans ?_; focus decide) | fail)); exact hcb 1 (by decide))
   have q2 : W0.cell? ⟨g1, 2, none⟩ = some (.slice bP 5 bPc) := by ((refine (World.cell?_of_block (a := ⟨g1, 2, none⟩) (hb0.block g1 (by simpa [World.setCell] using hLg1.lt) (fun h => h))).trans ?_); (repeat (first | (refine (World.cell?_setCell_other _ _ _ _ (ne_off ?_)).trans ?_; focus decide) | fail)); refine World.cell?_setCell_same _ _ _ (u := peek wx ⟨g1, 2, none⟩) ?_; (repeat (first | (refine (World.cell?_setCell_other _ _ _ _ (ne_off ?_)).trans ?_; focus decide) | fail)); exact hcb 2 (by decide))
   have q3 : W0.cell? ⟨g1, 3, none⟩ = some (.slice bD bDn bDc) := by ((refine (World.cell?_of_block (a := ⟨g1, 3, none⟩) (hb0.block g1 (by simpa [World.setCell] using hLg1.lt) (fun h => h))).trans ?_); (repeat (first | (refine (World.cell?_setCell_other _ _ _ _ (ne_off ?_)).trans ?_; focus decide) | fail)); refine World.cell?_setCell_same _ _ _ (u := peek wx ⟨g1, 3, none⟩) ?_; (repeat (first | (refine (World.cell?_setCell_other _ _ _ _ (ne_off ?_)).trans ?_; focus decide) | fail)); exact hcb 3 (by decide))
   have q4 : W0.cell? ⟨g1, 4, none⟩ = some (.int .i64 (Sw.mktNew xs).clock) := by ((refine (World.cell?_of_block (a := ⟨g1, 4, none⟩) (hb0.block g1 (by simpa [World.setCell] using hLg1.lt) (fun h => h))).trans ?_); (repeat (first | (refine (World.cell?_setCell_other _ _ _ _ (ne_off ?_)).trans ?_; focus decide) | fail)); refine World.cell?_setCell_same _ _ _ (u := peek wx ⟨g1, 4, none⟩) ?_; (repeat (first | (refine (World.cell?_setCell_other _ _ _ _ (ne_off ?_)).trans ?_; focus decide) | fail)); exact hcb 4 (by decide))
   have q5 : W0.cell? ⟨g1, 5, none⟩ = some (.slice bN bNn bNc) := by ((refine (World.cell?_of_block (a := ⟨g1, 5, none⟩) (hb0.block g1 (by simpa [World.setCell] using hLg1.lt) (fun h => h))).trans ?_); (repeat (first | (refine (World.cell?_setCell_other _ _ _ _ (ne_off ?_)).trans ?_; focus decide) | fail)); refine World.cell?_setCell_same _ _ _ (u := peek wx ⟨g1, 5, none⟩) ?_; (repeat (first | (refine (World.cell?_setCell_other _ _ _ _ (ne_off ?_)).trans ?_; focus decide) | fail)); exact hcb 5 (by decide))
   have q6 : W0.cell? ⟨g1, 6, none⟩ = some (.slice bS bSn bSc) := by ((refine (World.cell?_of_block (a := ⟨g1, 6, none⟩) (hb0.block g1 (by simpa [World.setCell] using hLg1.lt) (fun h => h))).trans ?_); (repeat (first | (refine (World.cell?_setCell_other _ _ _ _ (ne_off ?_)).trans ?_; focus decide) | fail)); refine World.cell?_setCell_same _ _ _ (u := peek wx ⟨g1, 6, none⟩) ?_; (repeat (first | (refine (World.cell?_setCell_other _ _ _ _ (ne_off ?_)).trans ?_; focus decide) | fail)); exact hcb 6 (by decide))
   have q7 : W0.cell? ⟨g1, 7, none⟩ = some (.slice none 0 0) := by ((refine (World.cell?_of_block (a := ⟨g1, 7, none⟩) (hb0.block g1 (by simpa [World.setCell] using hLg1.lt) (fun h => h))).trans ?_); (repeat (first | (refine (World.cell?_setCell_other _ _ _ _ (ne_off ?_)).trans ?_; focus decide) | fail)); refine World.cell?_setCell_same _ _ _ (u := peek wx ⟨g1, 7, none⟩) ?_; (repeat (first | (refine (World.cell?_setCell_other _ _ _ _ (ne_off ?_)).trans ?_; focus decide) | fail)); exact hcb 7 (by decide))
   have q8 : W0.cell? ⟨g1, 8, none⟩ = some (.slice none 0 0) := by ((refine (World.cell?_of_block (a := ⟨g1, 8, none⟩) (hb0.block g1 (by simpa [World.setCell] using hLg1.lt) (fun h => h))).trans ?_); (repeat (first | (refine (World.cell?_setCell_other _ _ _ _ (ne_off ?_)).trans ?_; focus decide) | fail)); refine World.cell?_setCell_same _ _ _ (u := peek wx ⟨g1, 8, none⟩) ?_; (repeat (first | (refine (World.cell?_setCell_other _ _ _ _ (ne_off ?_)).trans ?_; focus decide) | fail)); exact hcb 8 (by decide))
   have q9 : W0.cell? ⟨g1, 9, none⟩ = some (.slice none 0 0) := by ((refine (World.cell?_of_block (a := ⟨g1, 9, none⟩) (hb0.block g1 (by simpa [World.setCell] using hLg1.lt) (fun h => h))).trans ?_); (repeat (first | (refine (World.cell?_setCell_other _ _ _ _ (ne_off ?_)).trans ?_; focus decide) | fail)); refine World.cell?_setCell_same _ _ _ (u := peek wx ⟨g1, 9, none⟩) ?_; (repeat (first | (refine (World.cell?_setCell_other _ _ _ _ (ne_off ?_)).trans ?_; focus decide) | fail)); exact hcb 9 (by decide))
   go_loopw [5] (fun i wr => ∃ (k : Nat) (A' : Option Addr) (c' : Nat), k ≤ 2 ∧ i = .int .i64 k ∧ HeldB g1 10 W0 wr ∧ wr.cell? ⟨g1, 8, none⟩ = some (.slice A' k c') ∧ OwGV wr W0.heap.size A' c' k (List.replicate k (gv0 ((Sw.hedOf []).getD Sw.headZ))) ∧ (∀ j, j ≠ 8 → wr.cell? ⟨g1, j, none⟩ = W0.cell? ⟨g1, j, none⟩)) (fun i _ => 2 - (intOf i).toNat)
   case atStart => exact ⟨0, none, 0, by omega, rfl, HeldB.refl hLb, q8, Ow.nil _ _, fun _ _ => rfl⟩
   case round =>
     obtain ⟨k, A', c', hk2, rfl, hB, hq, ho, hrest⟩ := hrel
     have hgl : g1 < wr.heap.size := hB.lb.lt
     have hszW : W0.heap.size ≤ wr.heap.size := hB.ch.size
     by_cases hlt : k < 2
     · have Hr := Lib.hid hrest; clear hrest
       go_wp2_with fail
       refine wp_region_held_drew (S := fun w' => HeldB g1 10 W0 w') (by kernel_rfl) ?_ (fun hHeld => ?_)
       focus ((try dsimp only); ((exact hqb_)))
       refine regT 0 22 (v := ?_) rfl rfl (by kernel_rfl) (by kernel_rfl) (by kernel_rfl) (fun _ _ _ h => h) (by rfl) ?_ (by assumption) ?_
       rotate_left
       focus (intro w hSw; (try dsimp only at hSw); go_simp; (try with_reducible rfl))
       (try simp only [Act.put, pz_])
       refine wpAnyH_ready (rs := [1, 2]) (by kernel_rfl) (by simp) ?_
       refine AllReadyH.cons rfl (fun K hK => ?_) ?_
       · replace hHeld := Lib.hid hHeld
         replace hB := Lib.hid hB
         go_simp
         replace hHeld := hHeld.out
         replace hB := hB.out
         refine hK.out _ _ ?_ (fun hHeldN => ?_)
         focus ((try dsimp only); ((exact hqb_)))
         clear hK K hHeld
         have hHeld := hHeldN
         clear hHeldN
         (try simp only [Act.put, pz_])
         refine wpAnyH_ready (rs := [2]) (by kernel_rfl) (by simp) ?_
         refine AllReadyH.cons rfl (fun K hK => ?_) AllReadyH.nil
         go_simp
         (go_at_call 174; refine (sGatNew_c _).mono ?_; rintro E w1 ⟨rfl, hb⟩; obtain ⟨hc, hf, hz⟩ := xy hb)
         (try go_wp2_with fail)
         refine hK.out _ _ ?_ (fun hHeldN => ?_)
         focus ((try dsimp only); ((exact hqb_)))
         clear hK K hHeld
         have hHeld := hHeldN
         clear hHeldN
         (try simp only [Act.put, pz_])
         refine wpAnyH_ready (rs := [3]) (by kernel_rfl) (by simp) ?_
         refine AllReadyH.cons rfl (fun K hK => ?_) AllReadyH.nil
         go_simp
         refine hK.out _ _ ?_ (fun hHeldN => ?_)
         focus ((try dsimp only); ((exact hqb_)))
         clear hK K hHeld
         have hHeld := hHeldN
         clear hHeldN
         (try simp only [Act.put, pz_])
         refine wpAnyH_ready (rs := [4]) (by kernel_rfl) (by simp) ?_
         refine AllReadyH.cons rfl (fun K hK => ?_) AllReadyH.nil
         (apply step_app (lo := W0.heap.size) el_G one_G rfl rfl rfl rfl; (apply Ow.keep ho; (exact kf_)); (refine Rs.new [gv0 ((Sw.hedOf []).getD Sw.headZ)] (by (first | rfl | (simp only [zq_]; done) | omega)) rfl rfl (fun _ => rfl) (by omega)); omega; exact sz_; intro A1 c1 w2 ho1 hch1 hat1 hex1 hlow1)
         have hbx := hex1 (· = g1) W0 (HeldB.ch (by assumption : HeldB g1 10 W0 _)) (Nat.le_refl _)
         have hlbx := Lb.low hlow1 hgW (HeldB.lb (by assumption : HeldB g1 10 W0 _))
         have hX8 := low_keep (wr := wr) hch1 hlow1 (by (exact kf_)) hgW hgl
         have hz1 := hch1.size
         (try simp only [zq_] at hz1)
         obtain ⟨hcL, hfL⟩ := low_rules hlow1
         clear hex1 hlow1
         (try simp only [Act.put, pz_])
         refine hK.out _ _ ?_ (fun hHeldN => ?_)
         focus ((try dsimp only); ((exact hqb_)))
         clear hK K hHeld
         have hHeld := hHeldN
         clear hHeldN
         (try simp only [Act.put, pz_])
         refine regT 5 27 (v := ?_) rfl rfl (by kernel_rfl) (by kernel_rfl) (by kernel_rfl) (fun _ _ _ h => h) (by rfl) ?_ (by assumption) ?_
         rotate_left
         focus (intro w hSw; (try dsimp only at hSw); go_simp; (try with_reducible rfl))
         (try simp only [Act.put, pz_])
         refine wpAnyH_ready (rs := [6]) (by kernel_rfl) (by simp) ?_
         refine AllReadyH.cons rfl (fun K hK => ?_) AllReadyH.nil
         have hLbx := HeldB.lb hHeld
         obtain ⟨hcx, hfx⟩ := Lb.rules hLbx
         go_simp
         refine hK.out _ _ ?_ (fun hHx => ?_)
         focus ((try dsimp only); ((exact hqb_)))
         clear hK K hHeld
         (try simp only [Act.put, pz_])
         refine wpAnyH_done (by kernel_rfl) ?_ _
         go_wp2_with fail
         go_roundw
         case rel =>
           refine ⟨k + 1, A1, c1, by omega, by go_num, hHx, World.cell?_setCell_same _ _ _ (hcx 8 (by decide)), ?_, ?_⟩
           · rw [List.replicate_succ']; exact Ow.keep ho1 (by (exact kf_))
           · intro j hj; rw [World.cell?_setCell_other _ _ _ _ (by intro e; exact hj (by injection e with _ e; exact e.symm))]; exact (hX8 j).trans (Hr.out j hj)
         case measure => simp [intOf]; omega
       refine AllReadyH.cons rfl (fun K hK => ?_) AllReadyH.nil
       go_simp
       (go_at_call 174; refine (sGatNew_c _).mono ?_; rintro E w1 ⟨rfl, hb⟩; obtain ⟨hc, hf, hz⟩ := xy hb)
       (try go_wp2_with fail)
       refine hK.out _ _ ?_ (fun hHeldN => ?_)
       focus ((try dsimp only); ((exact hqb_)))
       clear hK K hHeld
       have hHeld := hHeldN
       clear hHeldN
       (try simp only [Act.put, pz_])
       refine wpAnyH_ready (rs := [1, 3]) (by kernel_rfl) (by simp) ?_
       refine AllReadyH.cons rfl (fun K hK => ?_) ?_
       · replace hHeld := Lib.hid hHeld
         replace hB := Lib.hid hB
         go_simp
         replace hHeld := hHeld.out
         replace hB := hB.out
         refine hK.out _ _ ?_ (fun hHeldN => ?_)
         focus ((try dsimp only); ((exact hqb_)))
         clear hK K hHeld
         have hHeld := hHeldN
         clear hHeldN
         (try simp only [Act.put, pz_])
         refine wpAnyH_ready (rs := [3]) (by kernel_rfl) (by simp) ?_
         refine AllReadyH.cons rfl (fun K hK => ?_) AllReadyH.nil
         go_simp
         refine hK.out _ _ ?_ (fun hHeldN => ?_)
         focus ((try dsimp only); ((exact hqb_)))
         clear hK K hHeld
         have hHeld := hHeldN
         clear hHeldN
         (try simp only [Act.put, pz_])
         refine wpAnyH_ready (rs := [4]) (by kernel_rfl) (by simp) ?_
         refine AllReadyH.cons rfl (fun K hK => ?_) AllReadyH.nil
         (apply step_app (lo := W0.heap.size) el_G one_G rfl rfl rfl rfl; (apply Ow.keep ho; (exact kf_)); (refine Rs.new [gv0 ((Sw.hedOf []).getD Sw.headZ)] (by (first | rfl | (simp only [zq_]; done) | omega)) rfl rfl (fun _ => rfl) (by omega)); omega; exact sz_; intro A1 c1 w2 ho1 hch1 hat1 hex1 hlow1)
         have hbx := hex1 (· = g1) W0 (HeldB.ch (by assumption : HeldB g1 10 W0 _)) (Nat.le_refl _)
         have hlbx := Lb.low hlow1 hgW (HeldB.lb (by assumption : HeldB g1 10 W0 _))
         have hX8 := low_keep (wr := wr) hch1 hlow1 (by (exact kf_)) hgW hgl
         have hz1 := hch1.size
         (try simp only [zq_] at hz1)
         obtain ⟨hcL, hfL⟩ := low_rules hlow1
         clear hex1 hlow1
         (try simp only [Act.put, pz_])
         refine hK.out _ _ ?_ (fun hHeldN => ?_)
         focus ((try dsimp only); ((exact hqb_)))
         clear hK K hHeld
         have hHeld := hHeldN
         clear hHeldN
         (try simp only [Act.put, pz_])
         refine regT 5 27 (v := ?_) rfl rfl (by kernel_rfl) (by kernel_rfl) (by kernel_rfl) (fun _ _ _ h => h) (by rfl) ?_ (by assumption) ?_
         rotate_left
         focus (intro w hSw; (try dsimp only at hSw); go_simp; (try with_reducible rfl))
         (try simp only [Act.put, pz_])
         refine wpAnyH_ready (rs := [6]) (by kernel_rfl) (by simp) ?_
         refine AllReadyH.cons rfl (fun K hK => ?_) AllReadyH.nil
         have hLbx := HeldB.lb hHeld
         obtain ⟨hcx, hfx⟩ := Lb.rules hLbx
         go_simp
         refine hK.out _ _ ?_ (fun hHx => ?_)
         focus ((try dsimp only); ((exact hqb_)))
         clear hK K hHeld
         (try simp only [Act.put, pz_])
         refine wpAnyH_done (by kernel_rfl) ?_ _
         go_wp2_with fail
         go_roundw
         case rel =>
           refine ⟨k + 1, A1, c1, by omega, by go_num, hHx, World.cell?_setCell_same _ _ _ (hcx 8 (by decide)), ?_, ?_⟩
           · rw [List.replicate_succ']; exact Ow.keep ho1 (by (exact kf_))
           · intro j hj; rw [World.cell?_setCell_other _ _ _ _ (by intro e; exact hj (by injection e with _ e; exact e.symm))]; exact (hX8 j).trans (Hr.out j hj)
         case measure => simp [intOf]; omega
       refine AllReadyH.cons rfl (fun K hK => ?_) AllReadyH.nil
       go_simp
       refine hK.out _ _ ?_ (fun hHeldN => ?_)
       focus ((try dsimp only); ((exact hqb_)))
       clear hK K hHeld
       have hHeld := hHeldN
       clear hHeldN
       (try simp only [Act.put, pz_])
       refine wpAnyH_ready (rs := [1]) (by kernel_rfl) (by simp) ?_
       refine AllReadyH.cons rfl (fun K hK => ?_) AllReadyH.nil
       replace hHeld := Lib.hid hHeld
       replace hB := Lib.hid hB
       go_simp
       replace hHeld := hHeld.out
       replace hB := hB.out
       refine hK.out _ _ ?_ (fun hHeldN => ?_)
       focus ((try dsimp only); ((exact hqb_)))
       clear hK K hHeld
       have hHeld := hHeldN
       clear hHeldN
       (try simp only [Act.put, pz_])
       refine wpAnyH_ready (rs := [4]) (by kernel_rfl) (by simp) ?_
       refine AllReadyH.cons rfl (fun K hK => ?_) AllReadyH.nil
       (apply step_app (lo := W0.heap.size) el_G one_G rfl rfl rfl rfl; (apply Ow.keep ho; (exact kf_)); (refine Rs.new [gv0 ((Sw.hedOf []).getD Sw.headZ)] (by (first | rfl | (simp only [zq_]; done) | omega)) rfl rfl (fun _ => rfl) (by omega)); omega; exact sz_; intro A1 c1 w2 ho1 hch1 hat1 hex1 hlow1)
       have hbx := hex1 (· = g1) W0 (HeldB.ch (by assumption : HeldB g1 10 W0 _)) (Nat.le_refl _)
       have hlbx := Lb.low hlow1 hgW (HeldB.lb (by assumption : HeldB g1 10 W0 _))
       have hX8 := low_keep (wr := wr) hch1 hlow1 (by (exact kf_)) hgW hgl
       have hz1 := hch1.size
       (try simp only [zq_] at hz1)
       obtain ⟨hcL, hfL⟩ := low_rules hlow1
       clear hex1 hlow1
       (try simp only [Act.put, pz_])
       refine hK.out _ _ ?_ (fun hHeldN => ?_)
       focus ((try dsimp only); ((exact hqb_)))
       clear hK K hHeld
       have hHeld := hHeldN
       clear hHeldN
       (try simp only [Act.put, pz_])
       refine regT 5 27 (v := ?_) rfl rfl (by kernel_rfl) (by kernel_rfl) (by kernel_rfl) (fun _ _ _ h => h) (by rfl) ?_ (by assumption) ?_
       rotate_left
       focus (intro w hSw; (try dsimp only at hSw); go_simp; (try with_reducible rfl))
       (try simp only [Act.put, pz_])
       refine wpAnyH_ready (rs := [6]) (by kernel_rfl) (by simp) ?_
       refine AllReadyH.cons rfl (fun K hK => ?_) AllReadyH.nil
       have hLbx := HeldB.lb hHeld
       obtain ⟨hcx, hfx⟩ := Lb.rules hLbx
       go_simp
       refine hK.out _ _ ?_ (fun hHx => ?_)
       focus ((try dsimp only); ((exact hqb_)))
       clear hK K hHeld
       (try simp only [Act.put, pz_])
       refine wpAnyH_done (by kernel_rfl) ?_ _
       go_wp2_with fail
       go_roundw
       case rel =>
         refine ⟨k + 1, A1, c1, by omega, by go_num, hHx, World.cell?_setCell_same _ _ _ (hcx 8 (by decide)), ?_, ?_⟩
         · rw [List.replicate_succ']; exact Ow.keep ho1 (by (exact kf_))
         · intro j hj; rw [World.cell?_setCell_other _ _ _ _ (by intro e; exact hj (by injection e with _ e; exact e.symm))]; exact (hX8 j).trans (Hr.out j hj)
       case measure => simp [intOf]; omega
     · obtain rfl : k = 2 := by omega
       have p0 := (hrest 0 (by decide)).trans q0
       have p1 := (hrest 1 (by decide)).trans q1
       have p2 := (hrest 2 (by decide)).trans q2
       have p3 := (hrest 3 (by decide)).trans q3
       have p4 := (hrest 4 (by decide)).trans q4
       have p5 := (hrest 5 (by decide)).trans q5
       have p6 := (hrest 6 (by decide)).trans q6
       have p7 := (hrest 7 (by decide)).trans q7
       have p9 := (hrest 9 (by decide)).trans q9
       clear hrest
       have hb := hB.ch
       have hLz := hB.lb.lt
       obtain ⟨hcz, hfz⟩ := Lb.rules (Lb.chk hB.ch hLw (fun e => by omega))
       clear hB
       go_wp2_with fail
       refine bodyPost_ret (v := .agg #[.slice A0 5 c0, .slice bL bLn bLc, .slice bP 5 bPc, .slice bD bDn bDc, .int .i64 (Sw.mktNew xs).clock, .slice bN bNn bNc, .slice bS bSn bSc, .slice none 0 0, .slice A' 2 c', .slice none 0 0]) (by simp [results, Tryz.results171, go_sem, *]) rfl ?_
       refine ⟨A0, c0, 5, bL, bLc, bLn, bP, bPc, 5, bD, bDc, bDn, bN, bNc, bNn, bS, bSc, bSn, A', c', 2, glue τm w1.heap.size (glue τ W0.heap.size (fun _ => 8)), by rw [He.out], ?_, ext_⟩
       rw [He.out]
       refine ⟨?_, ?_, ?_, by simp [Sw.gatNew], rfl, rfl⟩
       · have hT : glue τm w1.heap.size (glue τ W0.heap.size (fun _ => 8)) g1 = 7 := by unfold glue; rw [if_neg (by omega), if_pos hgW]; exact ht1
         have t1 := (t0.glueL (τ' := fun _ => 8) (k := W0.heap.size) (by omega)).glueR (k := w1.heap.size) (τ' := τm) (by omega)
         have hcw : Ch (· = g1) wx W0 := Ch.ex (by repeat (first | with_reducible exact Ch.refl _ _ | (with_reducible refine Ch.setCell ?_ ?_ _; rotate_left; (focus exact Or.inl rfl)))) hb0
         have t2 := OwT.keep t1 (KT.ch (Ch.trans hcw hb) (KT.refl _ _ _ _) (fun i hi => .inr (by rw [show i = g1 from hi, hT]; decide)))
         exact (t2.keepF (by (exact kf_))).less (by omega)
       · exact ((hoM.glueL (Nat.le_refl _)).keepF (by (exact kf_))).less (by simp)
       · exact ((OwT.fresh (τ := glue τm w1.heap.size (glue τ W0.heap.size (fun _ => 8))) (t := 8) ho (fun b h1 h2 => by unfold glue; rw [if_neg (by omega), if_neg (by omega)])).keepF (by (exact kf_))).less (by omega)
 case refine_2 =>
   rintro n l a wx ⟨hk, hHeld, hup, l0, r0, r1, r2, v0, u0, u1, u2, τ, hn0, rfl, rfl, C0, C1, C2⟩ he
   obtain rfl : l0 = true := by (cases l0 with | true => rfl | false => exact absurd he (ready_ne (i := 0) (by kernel_rfl)))
   obtain rfl : r0 = true := by (cases r0 with | true => rfl | false => exact absurd he (ready_ne (i := 2) (by kernel_rfl)))
   obtain rfl : r2 = true := by (cases r2 with | true => rfl | false => exact absurd he (ready_ne (i := 4) (by kernel_rfl)))
   obtain rfl : r1 = true := by (cases r1 with | true => rfl | false => exact absurd he (ready_ne (i := 5) (by kernel_rfl)))
   simp [cb] at hn0
 case refine_3 =>
   rintro n l a wx ⟨hk, hHeld, hup, l0, r0, r1, r2, v0, u0, u1, u2, τ, hn0, rfl, rfl, C0, C1, C2⟩ i hi
   obtain ⟨hi0, oi, ho, hdep⟩ := mem_ready.1 hi
   clear hi
   have hin : i < 7 := (Array.getElem?_eq_some_iff.1 ho).1
   rcases (show i = 0 ∨ i = 1 ∨ i = 2 ∨ i = 3 ∨ i = 4 ∨ i = 5 ∨ i = 6 by omega) with rfl | rfl | rfl | rfl | rfl | rfl | rfl
   · -- 0
     obtain rfl : l0 = false := hi0
     cases C0
     clear ho hdep
     refine wpOp_step rfl fun K hK => ?_
     go_simp
     refine hK _ _ ⟨hHeld.alloc _, hk.alloc, hHeld.alloc _, (by simp; omega), true, false, r1, r2, .slice (some ⟨wx.heap.size, 0, none⟩) 0 0, u0, u1, u2, glue τ wx.heap.size (fun _ => 6), ?_, rfl, rfl, .made _ _ _ (OwT.begun (Ow.new [] rfl rfl rfl (fun _ => rfl) (by omega) (by omega))), C1.alloc, (C2.chg _)⟩
     simp only [cb] at hn0 ⊢; simp at hn0 ⊢; omega
   · -- 1
     exact Bool.noConfusion (show true = false from hi0)
   · -- 2
     obtain rfl : r0 = false := hi0
     obtain rfl := Option.some.inj (show some _ = some oi from ho)
     have d := hdep ⟨0, .data⟩ (by simp) rfl
     obtain rfl : l0 = true := d
     clear ho hdep
     obtain ⟨Ax, cx, rfl, ht⟩ : ∃ A c, v0 = .slice A 0 c ∧ OwT encI 1 3 τ 6 wx W0.heap.size A c 0 [] := by (cases C0; exact ⟨_, _, rfl, by assumption⟩)
     clear C0
     refine wpOp_step rfl fun K hK => ?_
     apply step_app el_I one_I rfl rfl rfl rfl ht.ow (Rs.at0 hxs hk) (by omega) hup
     intro A1 c1 w2 ho1 hch1 hat1 hex1 hlow1
     rw [List.nil_append] at ho1; simp only [Nat.zero_add] at ho1
     have hbx := hex1 (· = (w.heap.size)) W0 hHeld.ch (Nat.le_refl _)
     have hlbx := Lb.low hlow1 hlt0 hHeld.lb
     simp only [Nat.zero_add]
     have hKF : KF 0 w w2 := kL ⟨hch1.size, hlow1⟩ hk (by omega)
     refine hK _ _ ⟨HeldB.of hbx hlbx, hKF, HeldB.of hbx hlbx, Nat.le_trans hup hch1.size, true, true, r1, r2, .slice Ax 0 cx, .slice A1 5 c1, u1, u2, glue τ wx.heap.size (fun _ => 6), ?_, rfl, rfl, .done _ _ _ (OwT.full ho1 ht hat1), C1.app hch1 ht.tag (by decide), (C2.chg _)⟩
     simp only [cb] at hn0 ⊢; simp at hn0 ⊢; omega
   · -- 3
     exact Bool.noConfusion (show true = false from hi0)
   · -- 4
     obtain rfl : r2 = false := hi0
     obtain rfl := Option.some.inj (show some _ = some oi from ho)
     obtain rfl : r0 = true := hdep ⟨2, .data⟩ (by simp) rfl
     clear ho hdep
     obtain ⟨A1, c1, rfl, ht⟩ : ∃ A c, u0 = .slice A 5 c ∧ OwT encI 1 3 τ 6 wx W0.heap.size A c 5 xs := by (cases C0; exact ⟨_, _, rfl, by assumption⟩)
     cases C2
     refine wpOp_step rfl fun K hK => ?_
     go_simp
     refine hK _ _ ⟨hHeld, hk, hHeld, hup, l0, true, r1, true, v0, (.slice A1 5 c1), u1, (fun u => .agg #[u, .slice bL bLn bLc, .slice bP 5 bPc, .slice bD bDn bDc, .int .i64 (Sw.mktNew xs).clock, .slice bN bNn bNc, .slice bS bSn bSc, .slice none 0 0, .slice none 0 0, .slice none 0 0]) (.slice A1 5 c1), τ, ?_, rfl, rfl, C0, C1, .done⟩
     simp only [cb] at hn0 ⊢; simp at hn0 ⊢; omega
   · -- 5
     obtain rfl : r1 = false := hi0
     cases C1
     clear ho hdep
     refine wpOp_step rfl fun K hK => ?_
     go_simp
     refine hK _ _ ⟨hHeld.alloc _, hk.alloc, hHeld.alloc _, (by simp; omega), l0, r0, true, r2, v0, u0, .pointer (some ⟨wx.heap.size, 0, none⟩), u2, glue τ wx.heap.size (fun _ => 7), ?_, rfl, rfl, C0.alloc, .done _ hup (Lb.new rfl (by kernel_rfl)) (by unfold glue; rw [if_neg (Nat.lt_irrefl _)]), C2⟩
     simp only [cb] at hn0 ⊢; simp at hn0 ⊢; omega
   · -- 6
     obtain rfl := Option.some.inj (show some _ = some oi from ho)
     obtain rfl : r1 = true := hdep ⟨5, .data⟩ (by simp) rfl
     obtain rfl : r2 = true := hdep ⟨4, .data⟩ (by simp) rfl
     obtain rfl : r0 = true := by (cases C2; rfl)
     obtain rfl : l0 = true := by (cases C0; rfl)
     simp [cb] at hn0
end Go.Proofs.YtnnoiagommiapaaGreat
