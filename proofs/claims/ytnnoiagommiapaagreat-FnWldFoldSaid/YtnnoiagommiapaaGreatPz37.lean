/- Texts joined: WldNew. -/
import Derived.Test.YtnnoiagommiapaaGreatPz19
import Derived.Test.YtnnoiagommiapaaGreatPz20
import Derived.Test.YtnnoiagommiapaaGreatPz7
set_option maxRecDepth 100000
set_option linter.unusedSimpArgs false
set_option linter.unusedVariables false
namespace Go.Proofs.YtnnoiagommiapaaGreat
open Go.RowKit Go
set_option maxHeartbeats 1000000
theorem OwM.zero {w : World} {lo : Nat} {τ : Nat → Nat} : OwM τ w lo none 0 0 none 0 0 none 0 0 none 0 0 none 0 0 Sw.mktZ := ⟨OwT.nil .., OwT.nil .., OwT.nil .., OwT.nil .., OwT.nil ..⟩
structure NewS (A : Option Addr) (c : Nat) (xs : List Int) (w W0 : World) (n : Nat) (l : Array Bool) (a : Act) (wx : World) : Prop where
 keep : KF 0 w wx
 held : HeldB (w.heap.size) 6 W0 wx
 up : W0.heap.size ≤ wx.heap.size
 st : ∃ (l0 r0 r1 r2 : Bool) (v0 u0 u1 u2 : Value) (τ : Nat → Nat), n = cb l0 + cb r0 + cb r1 + cb r2 ∧ l = #[l0, true, r0, r1, r2, false, false] ∧ a = ⟨#[.slice A 5 c, undef, .pointer (some ⟨w.heap.size, 0, none⟩), .slice A 5 c, .bool true, .bool false, .bool false, .slice A 5 c, .int .i64 (Sw.monSum xs), .bool false, .bool false, undef, v0, .slice A 5 c, u0, u1, u2, undef], []⟩ ∧ CopySt encI 1 3 τ 2 wx W0.heap.size 5 xs l0 r0 v0 u0 ∧ MakeSt encI 1 3 τ 4 wx W0.heap.size 5 (List.replicate 5 (0 : Int)) r1 u1 ∧ MakeSt encI 1 3 τ 5 wx W0.heap.size 5 (List.replicate 5 (0 : Int)) r2 u2
structure NewI (A : Option Addr) (c : Nat) (xs : List Int) (w W0 : World) (n : Nat) (l : Array Bool) (a : Act) (wx : World) : Prop where
 keep : KF 0 w wx
 held : HeldB (w.heap.size) 6 W0 wx
 up : W0.heap.size ≤ wx.heap.size
 st : ∃ (r0 r1 r2 : Bool) (u0 u1 u2 : Value) (τ : Nat → Nat), n = cb r0 + cb r1 + cb r2 ∧ l = #[true, r0, r1, r2, false, false] ∧ a = ⟨#[.slice A 5 c, undef, .pointer (some ⟨w.heap.size, 0, none⟩), .slice A 5 c, .bool true, .bool false, .bool false, .slice A 5 c, .int .i64 (Sw.monSum xs), .bool false, .bool false, undef, .slice A 5 c, u0, u1, u2, undef], []⟩ ∧ MakeSt encI 1 3 τ 2 wx W0.heap.size 5 xs r0 u0 ∧ MakeSt encI 1 3 τ 4 wx W0.heap.size 5 (List.replicate 5 (0 : Int)) r1 u1 ∧ MakeSt encI 1 3 τ 5 wx W0.heap.size 5 (List.replicate 5 (0 : Int)) r2 u2
theorem sMktNew_c (A : Option Addr) (c n : Nat) (xs : List Int) (w : World) (hxs : RI w 0 A c n xs) : Calls Tryz.prog 112 #[.slice A n c] w fun E w' => ∃ bL bLc bLn bP bPc bPn bD bDc bDn bN bNc bNn bS bSc bSn τ, E = .returned (.agg #[.slice bL bLn bLc, .slice bP bPn bPc, .slice bD bDn bDc, .int .i64 (Sw.mktNew xs).clock, .slice bN bNn bNc, .slice bS bSn bSc]) ∧ OwM τ w' w.heap.size bL bLc bLn bP bPc bPn bD bDc bDn bN bNc bNn bS bSc bSn (Sw.mktNew xs) ∧ Ex w w' := by
 cases g1 : Sw.monOk xs
 case false =>
   have e : Sw.mktNew xs = Sw.mktZ := by rw [Sw.mktNew, g1]; rfl
   have He := Lib.hid e; clear e
   go_enter Tryz.func112, Tryz.ntmps112
   go_wp2_with (first | (go_at_call 97; apply Calls.mono; apply sMonOk_c; (exact rdw_); rintro E w' ⟨rfl, rfl⟩))
   refine bodyPost_ret (v := .agg #[.slice none 0 0, .slice none 0 0, .slice none 0 0, .int .i64 0, .slice none 0 0, .slice none 0 0]) (by simp [results, Tryz.results112, go_sem, *]) rfl ?_
   refine ⟨_, _, _, _, _, _, _, _, _, _, _, _, _, _, _, fun _ => 0, by rw [He.out]; rfl, ?_, ext_⟩
   rw [He.out]
   exact OwM.zero
 have h5 := monOk_len g1
 have hn5 : n = 5 := by rw [hxs.1, h5]
 subst hn5
 clear h5
 by_cases g2 : Sw.monSum xs ≤ 100000
 case neg =>
   have e : Sw.mktNew xs = Sw.mktZ := by simp [Sw.mktNew, g1, g2]
   have He := Lib.hid e; clear e
   have g2' : decide (100000 < Sw.monSum xs) = true := by simp; omega
   go_enter Tryz.func112, Tryz.ntmps112
   go_wp2_with (first | (go_at_call 97; apply Calls.mono; apply sMonOk_c; (exact rdw_); rintro E w' ⟨rfl, rfl⟩) | (go_at_call 104; apply Calls.mono; apply sMonSum_c; (exact rdw_); rintro E w' ⟨rfl, rfl⟩))
   refine bodyPost_ret (v := .agg #[.slice none 0 0, .slice none 0 0, .slice none 0 0, .int .i64 0, .slice none 0 0, .slice none 0 0]) (by simp [results, Tryz.results112, go_sem, *]) rfl ?_
   refine ⟨_, _, _, _, _, _, _, _, _, _, _, _, _, _, _, fun _ => 0, by rw [He.out]; rfl, ?_, ext_⟩
   rw [He.out]
   exact OwM.zero
 have e : Sw.mktNew xs = ⟨[], xs, [], 0, [0, 0, 0, 0, 0], [0, 0, 0, 0, 0]⟩ := by simp [Sw.mktNew, g1, g2]
 have He := Lib.hid e; clear e
 have g2' : decide (100000 < Sw.monSum xs) = false := by simp; omega
 go_enter Tryz.func112, Tryz.ntmps112
 go_wp2_with (first | (go_at_call 97; apply Calls.mono; apply sMonOk_c; (exact rdw_); rintro E w' ⟨rfl, rfl⟩) | (go_at_call 104; apply Calls.mono; apply sMonSum_c; (exact rdw_); rintro E w' ⟨rfl, rfl⟩))
 (refine wn_ fun W0 hb0 hc0 hf0 hz0 => ?_; have hLb : Lb W0 (w.heap.size) 6 := Lb.ex (by exact lbc_) hb0; refine wp_region_held_drew (S := fun w' => HeldB (w.heap.size) 6 W0 w') (by kernel_rfl) ?_ (fun hHeld => ?_); (focus ((try dsimp only); (exact hqb_))); refine regT 1 13 (v := ?_) rfl rfl (by kernel_rfl) (by kernel_rfl) (by kernel_rfl) (fun _ _ _ h => h) (by rfl) ?_ (by assumption) ?_; rotate_left; (focus (intro w hSw; (try dsimp only at hSw); (try (have hst := xc (HeldB.ch hSw); (try simp only [zq_] at hst); obtain ⟨hcS, hfS, hzS⟩ := hst)); go_simp; (try with_reducible rfl))); (try simp only [Act.put, pz_]))
 have hlt0 : w.heap.size < W0.heap.size := hLb.lt
 refine wpAnyH_inv (Inv := NewS A c xs w W0) (k := 2) ?_ ?_ ?_ 4 _ _ _ ?_
 case refine_4 =>
   exact ⟨by (exact kf_), hHeld, Nat.le_refl _, false, false, false, false, undef, undef, undef, undef, fun _ => 0, rfl, by kernel_rfl, rfl, .none _ _, .none _, .none _⟩
 case refine_1 =>
   rintro l a wx ⟨hk, hHeld, hup, l0, r0, r1, r2, v0, u0, u1, u2, τ, hn0, rfl, rfl, C0, C1, C2⟩
   obtain rfl : l0 = true := by cases l0 <;> first | rfl | (exfalso; revert hn0; simp [cb]; done) | (exfalso; revert hn0; simp [cb]; omega)
   obtain rfl : r0 = true := by cases r0 <;> first | rfl | (exfalso; revert hn0; simp [cb]; done) | (exfalso; revert hn0; simp [cb]; omega)
   obtain rfl : r1 = true := by cases r1 <;> first | rfl | (exfalso; revert hn0; simp [cb]; done) | (exfalso; revert hn0; simp [cb]; omega)
   obtain rfl : r2 = true := by cases r2 <;> first | rfl | (exfalso; revert hn0; simp [cb]; done) | (exfalso; revert hn0; simp [cb]; omega)
   obtain ⟨A0, c0, rfl, t0⟩ : ∃ A c, u0 = .slice A 5 c ∧ OwT encI 1 3 τ 2 wx W0.heap.size A c 5 xs := by (cases C0; exact ⟨_, _, rfl, by assumption⟩)
   obtain ⟨A1, c1, rfl, t1⟩ : ∃ A c, u1 = .slice A 5 c ∧ OwT encI 1 3 τ 4 wx W0.heap.size A c 5 (List.replicate 5 (0 : Int)) := by (cases C1; exact ⟨_, _, rfl, by assumption⟩)
   obtain ⟨A2, c2, rfl, t2⟩ : ∃ A c, u2 = .slice A 5 c ∧ OwT encI 1 3 τ 5 wx W0.heap.size A c 5 (List.replicate 5 (0 : Int)) := by (cases C2; exact ⟨_, _, rfl, by assumption⟩)
   clear C0 C1 C2 hn0
   refine regT 5 17 (v := ?_) rfl rfl (by kernel_rfl) (by kernel_rfl) (by kernel_rfl) (fun _ _ _ h => h) (by rfl) ?_ (by assumption) ?_
   rotate_left
   focus (intro w hSw; (try dsimp only at hSw); go_simp; (try with_reducible rfl))
   try simp only [Act.put, List.setIfInBounds_toArray, List.set_cons_zero, List.set_cons_succ]
   refine wpAnyH_ready (rs := [6]) (by kernel_rfl) (by simp) ?_
   refine AllReadyH.cons rfl (fun K hK => ?_) ?_
   rotate_left
   focus exact AllReadyH.nil
   have hLbx := hHeld.lb
   obtain ⟨hcx, hfx⟩ := Lb.rules hLbx
   go_simp
   refine hK.out _ _ ?_ (fun hHx => ?_)
   focus ((exact hqb_))
   have hb := hHeld.ch
   clear hK K hHeld hcx hfx hLbx
   (obtain ⟨hc, hf, hz⟩ := xd hb)
   have hLb3 := HeldB.lb hHx
   repeat (replace hLb3 := Lb.unset hLb3)
   obtain ⟨hcb, hfb⟩ := Lb.rules hLb3
   have hbf := HeldB.ch hHx
   clear hHx
   refine wpAnyH_done (by kernel_rfl) ?_ _
   go_wp2
   refine bodyPost_ret (v := .agg #[.slice none 0 0, .slice A0 5 c0, .slice none 0 0, .int .i64 0, .slice A1 5 c1, .slice A2 5 c2]) (by simp [results, Tryz.results112, go_sem, *]) rfl ?_
   refine ⟨_, _, _, _, _, _, _, _, _, _, _, _, _, _, _, τ, by rw [He.out], ?_, ext_⟩
   rw [He.out]
   exact ⟨OwT.nil .., (t0.keepF (by (exact kf_))).less (by omega), OwT.nil .., (t1.keepF (by (exact kf_))).less (by omega), (t2.keepF (by (exact kf_))).less (by omega)⟩
 case refine_2 =>
   rintro n l a wx ⟨hk, hHeld, hup, l0, r0, r1, r2, v0, u0, u1, u2, τ, hn0, rfl, rfl, C0, C1, C2⟩ he
   obtain rfl : l0 = true := by (cases l0 with | true => rfl | false => exact absurd he (ready_ne (i := 0) (by kernel_rfl)))
   obtain rfl : r0 = true := by (cases r0 with | true => rfl | false => exact absurd he (ready_ne (i := 2) (by kernel_rfl)))
   obtain rfl : r1 = true := by (cases r1 with | true => rfl | false => exact absurd he (ready_ne (i := 3) (by kernel_rfl)))
   obtain rfl : r2 = true := by (cases r2 with | true => rfl | false => exact absurd he (ready_ne (i := 4) (by kernel_rfl)))
   simp [cb] at hn0
 case refine_3 =>
   rintro n l a wx ⟨hk, hHeld, hup, l0, r0, r1, r2, v0, u0, u1, u2, τ, hn0, rfl, rfl, C0, C1, C2⟩ i hi
   obtain ⟨hi0, oi, ho, hdep⟩ := mem_ready.1 hi
   clear hi
   have hin : i < 7 := (Array.getElem?_eq_some_iff.1 ho).1
   rcases (show i = 0 ∨ i = 1 ∨ i = 2 ∨ i = 3 ∨ i = 4 ∨ i = 5 ∨ i = 6 by omega) with rfl | rfl | rfl | rfl | rfl | rfl | rfl
   · -- 0
     obtain rfl : l0 = false := hi0
     cases C0
     clear ho hdep
     refine wpOp_step rfl fun K hK => ?_
     go_simp
     refine hK _ _ ⟨hHeld.alloc _, hk.alloc, hHeld.alloc _, (by simp; omega), true, false, r1, r2, .slice (some ⟨wx.heap.size, 0, none⟩) 0 0, u0, u1, u2, glue τ wx.heap.size (fun _ => 2), ?_, rfl, rfl, .made _ _ _ (OwT.begun (Ow.new [] rfl rfl rfl (fun _ => rfl) (by omega) (by omega))), C1.alloc, C2.alloc⟩
     simp only [cb] at hn0 ⊢; simp at hn0 ⊢; omega
   · -- 1
     exact Bool.noConfusion (show true = false from hi0)
   · -- 2
     obtain rfl : r0 = false := hi0
     obtain rfl := Option.some.inj (show some _ = some oi from ho)
     have d := hdep ⟨0, .data⟩ (by simp) rfl
     obtain rfl : l0 = true := d
     clear ho hdep
     obtain ⟨Ax, cx, rfl, ht⟩ : ∃ A c, v0 = .slice A 0 c ∧ OwT encI 1 3 τ 2 wx W0.heap.size A c 0 [] := by (cases C0; exact ⟨_, _, rfl, by assumption⟩)
     clear C0
     refine wpOp_step rfl fun K hK => ?_
     apply step_app el_I one_I rfl rfl rfl rfl ht.ow (Rs.at0 hxs hk) (by omega) hup
     intro A1 c1 w2 ho1 hch1 hat1 hex1 hlow1
     rw [List.nil_append] at ho1; simp only [Nat.zero_add] at ho1
     have hbx := hex1 (· = (w.heap.size)) W0 hHeld.ch (Nat.le_refl _)
     have hlbx := Lb.low hlow1 hlt0 hHeld.lb
     simp only [Nat.zero_add]
     have hKF : KF 0 w w2 := kL ⟨hch1.size, hlow1⟩ hk (by omega)
     refine hK _ _ ⟨HeldB.of hbx hlbx, hKF, HeldB.of hbx hlbx, Nat.le_trans hup hch1.size, true, true, r1, r2, .slice Ax 0 cx, .slice A1 5 c1, u1, u2, glue τ wx.heap.size (fun _ => 2), ?_, rfl, rfl, .done _ _ _ (OwT.full ho1 ht hat1), C1.app hch1 ht.tag (by decide), C2.app hch1 ht.tag (by decide)⟩
     simp only [cb] at hn0 ⊢; simp at hn0 ⊢; omega
   · -- 3
     obtain rfl : r1 = false := hi0
     cases C1
     clear ho hdep
     refine wpOp_step rfl fun K hK => ?_
     apply step_mk (lo := wx.heap.size) el_I (0 : Int) z_I rfl rfl rfl rfl rfl (by first | decide | omega) (by first | decide | (unfold maxLen; omega)) (Nat.le_refl _)
     intro w2 ho1 hb1 hz1
     refine hK _ _ ⟨hHeld.ex hb1, kE hb1 hk, hHeld.ex hb1, (by omega), l0, r0, true, r2, v0, u0, .slice (some ⟨wx.heap.size, 0, none⟩) 5 5, u2, glue τ wx.heap.size (fun _ => 4), ?_, rfl, rfl, C0.ex hb1, .done _ _ (OwT.newT ho1 (Nat.le_refl _) hup), C2.ex hb1⟩
     simp only [cb] at hn0 ⊢; simp at hn0 ⊢; omega
   · -- 4
     obtain rfl : r2 = false := hi0
     cases C2
     clear ho hdep
     refine wpOp_step rfl fun K hK => ?_
     apply step_mk (lo := wx.heap.size) el_I (0 : Int) z_I rfl rfl rfl rfl rfl (by first | decide | omega) (by first | decide | (unfold maxLen; omega)) (Nat.le_refl _)
     intro w2 ho1 hb1 hz1
     refine hK _ _ ⟨hHeld.ex hb1, kE hb1 hk, hHeld.ex hb1, (by omega), l0, r0, r1, true, v0, u0, u1, .slice (some ⟨wx.heap.size, 0, none⟩) 5 5, glue τ wx.heap.size (fun _ => 5), ?_, rfl, rfl, C0.ex hb1, C1.ex hb1, .done _ _ (OwT.newT ho1 (Nat.le_refl _) hup)⟩
     simp only [cb] at hn0 ⊢; simp at hn0 ⊢; omega
   · -- 5
     obtain rfl := Option.some.inj (show some _ = some oi from ho)
     obtain rfl : r0 = true := hdep ⟨2, .data⟩ (by simp) rfl
     obtain rfl : l0 = true := by (cases C0; rfl)
     obtain rfl : r1 = true := hdep ⟨3, .data⟩ (by simp) rfl
     obtain rfl : r2 = true := hdep ⟨4, .data⟩ (by simp) rfl
     simp [cb] at hn0
   · -- 6
     obtain rfl := Option.some.inj (show some _ = some oi from ho)
     exact Bool.noConfusion (show false = true from hdep ⟨5, .data⟩ (by simp) rfl)
theorem iMktNew_c (A : Option Addr) (c n : Nat) (xs : List Int) (w : World) (hxs : RI w 0 A c n xs) : Calls Tryz.prog 43 #[.slice A n c] w fun E w' => ∃ bL bLc bLn bP bPc bPn bD bDc bDn bN bNc bNn bS bSc bSn τ, E = .returned (.agg #[.slice bL bLn bLc, .slice bP bPn bPc, .slice bD bDn bDc, .int .i64 (Sw.mktNew xs).clock, .slice bN bNn bNc, .slice bS bSn bSc]) ∧ OwM τ w' w.heap.size bL bLc bLn bP bPc bPn bD bDc bDn bN bNc bNn bS bSc bSn (Sw.mktNew xs) ∧ Ex w w' := by
 cases g1 : Sw.monOk xs
 case false =>
   have e : Sw.mktNew xs = Sw.mktZ := by rw [Sw.mktNew, g1]; rfl
   have He := Lib.hid e; clear e
   go_enter Tryz.func43, Tryz.ntmps43
   go_wp2_with (first | (go_at_call 118; apply Calls.mono; apply iMonOk_c; (exact rdw_); rintro E w1 ⟨rfl, hb⟩; obtain ⟨hc, hf, hz⟩ := xy hb))
   refine bodyPost_ret (v := .agg #[.slice none 0 0, .slice none 0 0, .slice none 0 0, .int .i64 0, .slice none 0 0, .slice none 0 0]) (by simp [results, Tryz.results43, go_sem, *]) rfl ?_
   refine ⟨_, _, _, _, _, _, _, _, _, _, _, _, _, _, _, fun _ => 0, by rw [He.out]; rfl, ?_, ext_⟩
   rw [He.out]
   exact OwM.zero
 have h5 := monOk_len g1
 have hn5 : n = 5 := by rw [hxs.1, h5]
 subst hn5
 clear h5
 by_cases g2 : Sw.monSum xs ≤ 100000
 case neg =>
   have e : Sw.mktNew xs = Sw.mktZ := by simp [Sw.mktNew, g1, g2]
   have He := Lib.hid e; clear e
   have g2' : decide (100000 < Sw.monSum xs) = true := by simp; omega
   go_enter Tryz.func43, Tryz.ntmps43
   go_wp2_with (first | (go_at_call 118; apply Calls.mono; apply iMonOk_c; (exact rdw_); rintro E w1 ⟨rfl, hb⟩; obtain ⟨hc, hf, hz⟩ := xy hb) | (go_at_call 37; apply Calls.mono; apply iMonSum_c; (exact rdw_); rintro E w' ⟨rfl, rfl⟩))
   refine bodyPost_ret (v := .agg #[.slice none 0 0, .slice none 0 0, .slice none 0 0, .int .i64 0, .slice none 0 0, .slice none 0 0]) (by simp [results, Tryz.results43, go_sem, *]) rfl ?_
   refine ⟨_, _, _, _, _, _, _, _, _, _, _, _, _, _, _, fun _ => 0, by rw [He.out]; rfl, ?_, ext_⟩
   rw [He.out]
   exact OwM.zero
 have e : Sw.mktNew xs = ⟨[], xs, [], 0, [0, 0, 0, 0, 0], [0, 0, 0, 0, 0]⟩ := by simp [Sw.mktNew, g1, g2]
 have He := Lib.hid e; clear e
 have g2' : decide (100000 < Sw.monSum xs) = false := by simp; omega
 go_enter Tryz.func43, Tryz.ntmps43
 go_wp2_with (first | (go_at_call 118; apply Calls.mono; apply iMonOk_c; (exact rdw_); rintro E w1 ⟨rfl, hb⟩; obtain ⟨hc, hf, hz⟩ := xy hb) | (go_at_call 37; apply Calls.mono; apply iMonSum_c; (exact rdw_); rintro E w' ⟨rfl, rfl⟩))
 (refine wn_ fun W0 hb0 hc0 hf0 hz0 => ?_; have hLb : Lb W0 (w.heap.size) 6 := Lb.ex (by exact lbc_) hb0; refine wp_region_held_drew (S := fun w' => HeldB (w.heap.size) 6 W0 w') (by kernel_rfl) ?_ (fun hHeld => ?_); (focus ((try dsimp only); (exact hqb_))); refine regT 0 12 (v := ?_) rfl rfl (by kernel_rfl) (by kernel_rfl) (by kernel_rfl) (fun _ _ _ h => h) (by rfl) ?_ (by assumption) ?_; rotate_left; (focus (intro w hSw; (try dsimp only at hSw); (try (have hst := xc (HeldB.ch hSw); (try simp only [zq_] at hst); obtain ⟨hcS, hfS, hzS⟩ := hst)); go_simp; (try with_reducible rfl))); (try simp only [Act.put, pz_]))
 have hlt0 : w.heap.size < W0.heap.size := hLb.lt
 refine wpAnyH_inv (Inv := NewI A c xs w W0) (k := 2) ?_ ?_ ?_ 3 _ _ _ ?_
 case refine_4 =>
   exact ⟨by (exact kf_), hHeld, Nat.le_refl _, false, false, false, undef, undef, undef, fun _ => 0, rfl, by kernel_rfl, rfl, .none _, .none _, .none _⟩
 case refine_1 =>
   rintro l a wx ⟨hk, hHeld, hup, r0, r1, r2, u0, u1, u2, τ, hn0, rfl, rfl, C0, C1, C2⟩
   obtain rfl : r0 = true := by cases r0 <;> first | rfl | (exfalso; revert hn0; simp [cb]; done) | (exfalso; revert hn0; simp [cb]; omega)
   obtain rfl : r1 = true := by cases r1 <;> first | rfl | (exfalso; revert hn0; simp [cb]; done) | (exfalso; revert hn0; simp [cb]; omega)
   obtain rfl : r2 = true := by cases r2 <;> first | rfl | (exfalso; revert hn0; simp [cb]; done) | (exfalso; revert hn0; simp [cb]; omega)
   obtain ⟨A0, c0, rfl, t0⟩ : ∃ A c, u0 = .slice A 5 c ∧ OwT encI 1 3 τ 2 wx W0.heap.size A c 5 xs := by (cases C0; exact ⟨_, _, rfl, by assumption⟩)
   obtain ⟨A1, c1, rfl, t1⟩ : ∃ A c, u1 = .slice A 5 c ∧ OwT encI 1 3 τ 4 wx W0.heap.size A c 5 (List.replicate 5 (0 : Int)) := by (cases C1; exact ⟨_, _, rfl, by assumption⟩)
   obtain ⟨A2, c2, rfl, t2⟩ : ∃ A c, u2 = .slice A 5 c ∧ OwT encI 1 3 τ 5 wx W0.heap.size A c 5 (List.replicate 5 (0 : Int)) := by (cases C2; exact ⟨_, _, rfl, by assumption⟩)
   clear C0 C1 C2 hn0
   refine regT 4 16 (v := ?_) rfl rfl (by kernel_rfl) (by kernel_rfl) (by kernel_rfl) (fun _ _ _ h => h) (by rfl) ?_ (by assumption) ?_
   rotate_left
   focus (intro w hSw; (try dsimp only at hSw); go_simp; (try with_reducible rfl))
   try simp only [Act.put, List.setIfInBounds_toArray, List.set_cons_zero, List.set_cons_succ]
   refine wpAnyH_ready (rs := [5]) (by kernel_rfl) (by simp) ?_
   refine AllReadyH.cons rfl (fun K hK => ?_) ?_
   rotate_left
   focus exact AllReadyH.nil
   have hLbx := hHeld.lb
   obtain ⟨hcx, hfx⟩ := Lb.rules hLbx
   go_simp
   refine hK.out _ _ ?_ (fun hHx => ?_)
   focus ((exact hqb_))
   have hb := hHeld.ch
   clear hK K hHeld hcx hfx hLbx
   (obtain ⟨hc, hf, hz⟩ := xd hb)
   have hLb3 := HeldB.lb hHx
   repeat (replace hLb3 := Lb.unset hLb3)
   obtain ⟨hcb, hfb⟩ := Lb.rules hLb3
   have hbf := HeldB.ch hHx
   clear hHx
   refine wpAnyH_done (by kernel_rfl) ?_ _
   go_wp2
   refine bodyPost_ret (v := .agg #[.slice none 0 0, .slice A0 5 c0, .slice none 0 0, .int .i64 0, .slice A1 5 c1, .slice A2 5 c2]) (by simp [results, Tryz.results43, go_sem, *]) rfl ?_
   refine ⟨_, _, _, _, _, _, _, _, _, _, _, _, _, _, _, τ, by rw [He.out], ?_, ext_⟩
   rw [He.out]
   exact ⟨OwT.nil .., (t0.keepF (by (exact kf_))).less (by omega), OwT.nil .., (t1.keepF (by (exact kf_))).less (by omega), (t2.keepF (by (exact kf_))).less (by omega)⟩
 case refine_2 =>
   rintro n l a wx ⟨hk, hHeld, hup, r0, r1, r2, u0, u1, u2, τ, hn0, rfl, rfl, C0, C1, C2⟩ he
   obtain rfl : r0 = true := by (cases r0 with | true => rfl | false => exact absurd he (ready_ne (i := 1) (by kernel_rfl)))
   obtain rfl : r1 = true := by (cases r1 with | true => rfl | false => exact absurd he (ready_ne (i := 2) (by kernel_rfl)))
   obtain rfl : r2 = true := by (cases r2 with | true => rfl | false => exact absurd he (ready_ne (i := 3) (by kernel_rfl)))
   simp [cb] at hn0
 case refine_3 =>
   rintro n l a wx ⟨hk, hHeld, hup, r0, r1, r2, u0, u1, u2, τ, hn0, rfl, rfl, C0, C1, C2⟩ i hi
   obtain ⟨hi0, oi, ho, hdep⟩ := mem_ready.1 hi
   clear hi
   have hin : i < 6 := (Array.getElem?_eq_some_iff.1 ho).1
   rcases (show i = 0 ∨ i = 1 ∨ i = 2 ∨ i = 3 ∨ i = 4 ∨ i = 5 by omega) with rfl | rfl | rfl | rfl | rfl | rfl
   · -- 0
     exact Bool.noConfusion (show true = false from hi0)
   · -- 1
     obtain rfl : r0 = false := hi0
     cases C0
     clear ho hdep
     refine wpOp_step rfl fun K hK => ?_
     replace hK := Lib.hid hK
     go_simp
     (go_at_call 119; apply Calls.mono; apply iCloneInts_c; (exact Rs.at0 hxs hk); (try omega); rintro E w2 ⟨A1, c1, rfl, ho1, hb1⟩)
     try go_wp2_with fail
     refine hK.out _ _ ⟨hHeld.ex hb1, kE hb1 hk, hHeld.ex hb1, (by have := hb1.size; omega), true, r1, r2, .slice A1 5 c1, u1, u2, glue τ wx.heap.size (fun _ => 2), ?_, rfl, rfl, .done _ _ (OwT.newT ho1 (Nat.le_refl _) hup), C1.ex hb1, C2.ex hb1⟩
     simp only [cb] at hn0 ⊢; simp at hn0 ⊢; omega
   · -- 2
     obtain rfl : r1 = false := hi0
     cases C1
     clear ho hdep
     refine wpOp_step rfl fun K hK => ?_
     apply step_mk (lo := wx.heap.size) el_I (0 : Int) z_I rfl rfl rfl rfl rfl (by first | decide | omega) (by first | decide | (unfold maxLen; omega)) (Nat.le_refl _)
     intro w2 ho1 hb1 hz1
     refine hK _ _ ⟨hHeld.ex hb1, kE hb1 hk, hHeld.ex hb1, (by omega), r0, true, r2, u0, .slice (some ⟨wx.heap.size, 0, none⟩) 5 5, u2, glue τ wx.heap.size (fun _ => 4), ?_, rfl, rfl, C0.ex hb1, .done _ _ (OwT.newT ho1 (Nat.le_refl _) hup), C2.ex hb1⟩
     simp only [cb] at hn0 ⊢; simp at hn0 ⊢; omega
   · -- 3
     obtain rfl : r2 = false := hi0
     cases C2
     clear ho hdep
     refine wpOp_step rfl fun K hK => ?_
     apply step_mk (lo := wx.heap.size) el_I (0 : Int) z_I rfl rfl rfl rfl rfl (by first | decide | omega) (by first | decide | (unfold maxLen; omega)) (Nat.le_refl _)
     intro w2 ho1 hb1 hz1
     refine hK _ _ ⟨hHeld.ex hb1, kE hb1 hk, hHeld.ex hb1, (by omega), r0, r1, true, u0, u1, .slice (some ⟨wx.heap.size, 0, none⟩) 5 5, glue τ wx.heap.size (fun _ => 5), ?_, rfl, rfl, C0.ex hb1, C1.ex hb1, .done _ _ (OwT.newT ho1 (Nat.le_refl _) hup)⟩
     simp only [cb] at hn0 ⊢; simp at hn0 ⊢; omega
   · -- 4
     obtain rfl := Option.some.inj (show some _ = some oi from ho)
     obtain rfl : r0 = true := hdep ⟨1, .data⟩ (by simp) rfl
     obtain rfl : r1 = true := hdep ⟨2, .data⟩ (by simp) rfl
     obtain rfl : r2 = true := hdep ⟨3, .data⟩ (by simp) rfl
     simp [cb] at hn0
   · -- 5
     obtain rfl := Option.some.inj (show some _ = some oi from ho)
     exact Bool.noConfusion (show false = true from hdep ⟨4, .data⟩ (by simp) rfl)
end Go.Proofs.YtnnoiagommiapaaGreat
