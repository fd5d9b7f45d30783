/- Texts joined: Mkt2. -/
import Derived.Test.YtnnoiagommiapaaGreatPy17
import Derived.Test.YtnnoiagommiapaaGreatPy2
set_option maxRecDepth 100000
set_option linter.unusedSimpArgs false
set_option linter.unusedVariables false
namespace Go.Proofs.YtnnoiagommiapaaGreat
open Go.RowKit Go
set_option maxHeartbeats 1000000
theorem kL {lo l0 : Nat} {w0 w w' : World} (h : w.heap.size ≤ w'.heap.size ∧ ∀ b, b < lo → w'.heap[b]? = w.heap[b]?) (k : KF l0 w0 w) (hl : w0.heap.size ≤ lo) : KF l0 w0 w' :=
 ⟨Nat.le_trans k.size h.1, fun b h1 h2 => (h.2 b (by omega)).trans (k.block b h1 h2)⟩
inductive CopySt {α : Type} (enc : α → List Value) (sz : Nat) (e : TypeId) (τ : Nat → Nat) (t : Nat) (w : World) (lo n : Nat) (xs : List α) : Bool → Bool → Value → Value → Prop
 | none (v u : Value) : CopySt enc sz e τ t w lo n xs false false v u
 | made (A : Option Addr) (c : Nat) (u : Value) (h : OwT enc sz e τ t w lo A c 0 []) : CopySt enc sz e τ t w lo n xs true false (.slice A 0 c) u
 | done (v : Value) (A : Option Addr) (c : Nat) (h : OwT enc sz e τ t w lo A c n xs) : CopySt enc sz e τ t w lo n xs true true v (.slice A n c)
section
variable {α : Type} {enc : α → List Value} {sz : Nat} {e : TypeId} {τ τ' : Nat → Nat} {t s : Nat} {w w' : World} {lo n c : Nat} {xs : List α} {l r : Bool} {v u : Value} {A A' : Option Addr}
theorem CopySt.mv (h : CopySt enc sz e τ t w lo n xs l r v u) (f : ∀ A c k ys, OwT enc sz e τ t w lo A c k ys → OwT enc sz e τ' t w' lo A c k ys) : CopySt enc sz e τ' t w' lo n xs l r v u := by
 cases h with
 | none => exact .none _ _
 | made A c u h => exact .made _ _ _ (f _ _ _ _ h)
 | done v A c h => exact .done _ _ _ (f _ _ _ _ h)
theorem CopySt.alloc {o : Obj} (h : CopySt enc sz e τ t w lo n xs l r v u) : CopySt enc sz e (glue τ w.heap.size (fun _ => s)) t (w.alloc o) lo n xs l r v u :=
 h.mv fun _ _ _ _ h => (h.glueL (Nat.le_refl _)).keep (KT.refl _ _ _ _).alloc
theorem glue_tag {b k : Nat} (h : τ b = s) : glue τ k (fun _ => s) b = s := by
 unfold glue
 split
 · exact h
 · rfl
theorem CopySt.app (h : CopySt enc sz e τ t w lo n xs l r v u) (hb : Ch (atA A) w w') (ht : ∀ a, A = some a → τ a.block = s) (hne : t ≠ s) : CopySt enc sz e (glue τ w.heap.size (fun _ => s)) t w' lo n xs l r v u :=
 h.mv fun _ _ _ _ h => (h.glueL (Nat.le_refl _)).keep (KT.ch hb (KT.refl _ _ _ _) fun i ⟨a, ha, hi⟩ => .inr (by rw [hi, glue_tag (ht a ha)]; exact Ne.symm hne))
theorem OwT.begun {T : TypeId} (h : Ow enc sz e (w.alloc (.cells #[] T)) lo (some ⟨w.heap.size, 0, Option.none⟩) 0 0 []) : OwT enc sz e (glue τ w.heap.size (fun _ => t)) t (w.alloc (.cells #[] T)) lo (some ⟨w.heap.size, 0, Option.none⟩) 0 0 [] :=
 ⟨h, fun a ha => by cases ha; simp [glue]⟩
theorem OwT.full {ys : List α} {m d lo' : Nat} (h : Ow enc sz e w' lo' A' c n xs) (k : OwT enc sz e τ t w lo A d m ys) (hat : ∀ b, A' = some b → A = some b ∨ w.heap.size ≤ b.block) : OwT enc sz e (glue τ w.heap.size (fun _ => t)) t w' lo' A' c n xs :=
 ⟨h, fun a ha => by
   rcases hat a ha with h1 | h1
   · unfold glue; rw [if_pos (k.ow.blk h1).2]; exact k.tag a h1
   · unfold glue; rw [if_neg (by omega)]⟩
end
theorem ready_ne {md : Region.Mode} {ops : Array Oper} {l : Array Bool} {i : Nat} (h : (Region.ready md ops l).contains i = true) : Region.ready md ops l ≠ [] := by
 intro he; rw [he] at h; simp at h
def cb (b : Bool) : Nat := if b then 0 else 1
structure Copy5 (aL : Option Addr) (aLc aLn : Nat) (aP : Option Addr) (aPc aPn : Nat) (aD : Option Addr) (aDc aDn : Nat) (aN : Option Addr) (aNc aNn : Nat) (aS : Option Addr) (aSc aSn : Nat) (m : Sw.Mkt) (w W0 : World) (n : Nat) (l : Array Bool) (a : Act) (wx : World) : Prop where
 keep : KF 0 w wx
 held : HeldB (w.heap.size + 1) 6 W0 wx
 up : W0.heap.size ≤ wx.heap.size
 st : ∃ (l0 l1 l2 l3 l4 r0 r1 r2 r3 r4 : Bool) (v0 v1 v2 v3 v4 u0 u1 u2 u3 u4 : Value) (τ : Nat → Nat), n = cb l0 + cb l1 + cb l2 + cb l3 + cb l4 + cb r0 + cb r1 + cb r2 + cb r3 + cb r4 ∧ l = #[l0, true, true, r0, l1, true, true, r1, l2, true, true, r2, true, true, l3, true, true, r3, l4, true, true, r4, false, false] ∧ a = ⟨#[.agg #[.slice aL aLn aLc, .slice aP aPn aPc, .slice aD aDn aDc, .int .i64 m.clock, .slice aN aNn aNc, .slice aS aSn aSc], .pointer (some ⟨w.heap.size, 0, none⟩), .pointer (some ⟨w.heap.size + 1, 0, none⟩), v0, .pointer (some ⟨w.heap.size, 0, none⟩), .slice aL aLn aLc, u0, v1, .pointer (some ⟨w.heap.size, 1, none⟩), .slice aP aPn aPc, u1, v2, .pointer (some ⟨w.heap.size, 2, none⟩), .slice aD aDn aDc, u2, .pointer (some ⟨w.heap.size, 3, none⟩), .int .i64 m.clock, v3, .pointer (some ⟨w.heap.size, 4, none⟩), .slice aN aNn aNc, u3, v4, .pointer (some ⟨w.heap.size, 5, none⟩), .slice aS aSn aSc, u4, undef], []⟩ ∧ CopySt Sw.Ent.enc 4 207 τ 1 wx W0.heap.size aLn m.log l0 r0 v0 u0 ∧ CopySt encI 1 3 τ 2 wx W0.heap.size aPn m.purses l1 r1 v1 u1 ∧ CopySt Sw.Deal.enc 5 105 τ 3 wx W0.heap.size aDn m.deals l2 r2 v2 u2 ∧ CopySt encI 1 3 τ 4 wx W0.heap.size aNn m.nums l3 r3 v3 u3 ∧ CopySt encI 1 3 τ 5 wx W0.heap.size aSn m.said l4 r4 v4 u4
theorem OwM.of5 {W : World} {lo l0 : Nat} {τ : Nat → Nat} {aL : Option Addr} {aLc aLn : Nat} {aP : Option Addr} {aPc aPn : Nat} {aD : Option Addr} {aDc aDn : Nat} {aN : Option Addr} {aNc aNn : Nat} {aS : Option Addr} {aSc aSn : Nat} {m : Sw.Mkt} (h1 : OwT Sw.Ent.enc 4 207 τ 1 W l0 aL aLc aLn m.log) (h2 : OwT encI 1 3 τ 2 W l0 aP aPc aPn m.purses) (h3 : OwT Sw.Deal.enc 5 105 τ 3 W l0 aD aDc aDn m.deals) (h4 : OwT encI 1 3 τ 4 W l0 aN aNc aNn m.nums) (h5 : OwT encI 1 3 τ 5 W l0 aS aSc aSn m.said) (hl : lo ≤ l0) : OwM τ W lo aL aLc aLn aP aPc aPn aD aDc aDn aN aNc aNn aS aSc aSn m :=
 ⟨h1.less hl, h2.less hl, h3.less hl, h4.less hl, h5.less hl⟩
theorem sMktCopy_c (aL : Option Addr) (aLc aLn : Nat) (aP : Option Addr) (aPc aPn : Nat) (aD : Option Addr) (aDc aDn : Nat) (aN : Option Addr) (aNc aNn : Nat) (aS : Option Addr) (aSc aSn : Nat) (m : Sw.Mkt) (w : World) (hm : RM w 0 aL aLc aLn aP aPc aPn aD aDc aDn aN aNc aNn aS aSc aSn m) (hn : aLn + aPn + aDn + aNn + aSn ≤ 1048576) : Calls Tryz.prog 115 #[.agg #[.slice aL aLn aLc, .slice aP aPn aPc, .slice aD aDn aDc, .int .i64 m.clock, .slice aN aNn aNc, .slice aS aSn aSc]] w fun E w' => ∃ bL bLc bLn bP bPc bPn bD bDc bDn bN bNc bNn bS bSc bSn τ, E = .returned (.agg #[.slice bL bLn bLc, .slice bP bPn bPc, .slice bD bDn bDc, .int .i64 m.clock, .slice bN bNn bNc, .slice bS bSn bSc]) ∧ OwM τ w' w.heap.size bL bLc bLn bP bPc bPn bD bDc bDn bN bNc bNn bS bSc bSn m ∧ Ex w w' := by
 obtain ⟨m1, m2, m3, m4, m5⟩ := hm
 go_enter Tryz.func115, Tryz.ntmps115
 go_wp2_with fail
 (refine wn_ fun W0 hb0 hc0 hf0 hz0 => ?_; have hLb : Lb W0 (w.heap.size + 1) 6 := Lb.ex (by exact lbc_) hb0; refine wp_region_held_drew (S := fun w' => HeldB (w.heap.size + 1) 6 W0 w') (by kernel_rfl) ?_ (fun hHeld => ?_); (focus ((try dsimp only); (exact hqb_))); refine regT 1 4 (v := ?_) rfl rfl (by kernel_rfl) (by kernel_rfl) (by kernel_rfl) (fun _ _ _ h => h) (by rfl) ?_ (by assumption) ?_; rotate_left; (focus (intro w hSw; (try dsimp only at hSw); (try (have hst := xc (HeldB.ch hSw); (try simp only [zq_] at hst); obtain ⟨hcS, hfS, hzS⟩ := hst)); go_simp; (try with_reducible rfl))); (try simp only [Act.put, pz_]); refine regT 2 5 (v := ?_) rfl rfl (by kernel_rfl) (by kernel_rfl) (by kernel_rfl) (fun _ _ _ h => h) (by rfl) ?_ (by assumption) ?_; rotate_left; (focus (intro w hSw; (try dsimp only at hSw); (try (have hst := xc (HeldB.ch hSw); (try simp only [zq_] at hst); obtain ⟨hcS, hfS, hzS⟩ := hst)); go_simp; (try with_reducible rfl))); (try simp only [Act.put, pz_]); refine regT 5 8 (v := ?_) rfl rfl (by kernel_rfl) (by kernel_rfl) (by kernel_rfl) (fun _ _ _ h => h) (by rfl) ?_ (by assumption) ?_; rotate_left; (focus (intro w hSw; (try dsimp only at hSw); (try (have hst := xc (HeldB.ch hSw); (try simp only [zq_] at hst); obtain ⟨hcS, hfS, hzS⟩ := hst)); go_simp; (try with_reducible rfl))); (try simp only [Act.put, pz_]); refine regT 6 9 (v := ?_) rfl rfl (by kernel_rfl) (by kernel_rfl) (by kernel_rfl) (fun _ _ _ h => h) (by rfl) ?_ (by assumption) ?_; rotate_left; (focus (intro w hSw; (try dsimp only at hSw); (try (have hst := xc (HeldB.ch hSw); (try simp only [zq_] at hst); obtain ⟨hcS, hfS, hzS⟩ := hst)); go_simp; (try with_reducible rfl))); (try simp only [Act.put, pz_]); refine regT 9 12 (v := ?_) rfl rfl (by kernel_rfl) (by kernel_rfl) (by kernel_rfl) (fun _ _ _ h => h) (by rfl) ?_ (by assumption) ?_; rotate_left; (focus (intro w hSw; (try dsimp only at hSw); (try (have hst := xc (HeldB.ch hSw); (try simp only [zq_] at hst); obtain ⟨hcS, hfS, hzS⟩ := hst)); go_simp; (try with_reducible rfl))); (try simp only [Act.put, pz_]); refine regT 10 13 (v := ?_) rfl rfl (by kernel_rfl) (by kernel_rfl) (by kernel_rfl) (fun _ _ _ h => h) (by rfl) ?_ (by assumption) ?_; rotate_left; (focus (intro w hSw; (try dsimp only at hSw); (try (have hst := xc (HeldB.ch hSw); (try simp only [zq_] at hst); obtain ⟨hcS, hfS, hzS⟩ := hst)); go_simp; (try with_reducible rfl))); (try simp only [Act.put, pz_]); refine regT 12 15 (v := ?_) rfl rfl (by kernel_rfl) (by kernel_rfl) (by kernel_rfl) (fun _ _ _ h => h) (by rfl) ?_ (by assumption) ?_; rotate_left; (focus (intro w hSw; (try dsimp only at hSw); (try (have hst := xc (HeldB.ch hSw); (try simp only [zq_] at hst); obtain ⟨hcS, hfS, hzS⟩ := hst)); go_simp; (try with_reducible rfl))); (try simp only [Act.put, pz_]); refine regT 13 16 (v := ?_) rfl rfl (by kernel_rfl) (by kernel_rfl) (by kernel_rfl) (fun _ _ _ h => h) (by rfl) ?_ (by assumption) ?_; rotate_left; (focus (intro w hSw; (try dsimp only at hSw); (try (have hst := xc (HeldB.ch hSw); (try simp only [zq_] at hst); obtain ⟨hcS, hfS, hzS⟩ := hst)); go_simp; (try with_reducible rfl))); (try simp only [Act.put, pz_]); refine regT 15 18 (v := ?_) rfl rfl (by kernel_rfl) (by kernel_rfl) (by kernel_rfl) (fun _ _ _ h => h) (by rfl) ?_ (by assumption) ?_; rotate_left; (focus (intro w hSw; (try dsimp only at hSw); (try (have hst := xc (HeldB.ch hSw); (try simp only [zq_] at hst); obtain ⟨hcS, hfS, hzS⟩ := hst)); go_simp; (try with_reducible rfl))); (try simp only [Act.put, pz_]); refine regT 16 19 (v := ?_) rfl rfl (by kernel_rfl) (by kernel_rfl) (by kernel_rfl) (fun _ _ _ h => h) (by rfl) ?_ (by assumption) ?_; rotate_left; (focus (intro w hSw; (try dsimp only at hSw); (try (have hst := xc (HeldB.ch hSw); (try simp only [zq_] at hst); obtain ⟨hcS, hfS, hzS⟩ := hst)); go_simp; (try with_reducible rfl))); (try simp only [Act.put, pz_]); refine regT 19 22 (v := ?_) rfl rfl (by kernel_rfl) (by kernel_rfl) (by kernel_rfl) (fun _ _ _ h => h) (by rfl) ?_ (by assumption) ?_; rotate_left; (focus (intro w hSw; (try dsimp only at hSw); (try (have hst := xc (HeldB.ch hSw); (try simp only [zq_] at hst); obtain ⟨hcS, hfS, hzS⟩ := hst)); go_simp; (try with_reducible rfl))); (try simp only [Act.put, pz_]); refine regT 20 23 (v := ?_) rfl rfl (by kernel_rfl) (by kernel_rfl) (by kernel_rfl) (fun _ _ _ h => h) (by rfl) ?_ (by assumption) ?_; rotate_left; (focus (intro w hSw; (try dsimp only at hSw); (try (have hst := xc (HeldB.ch hSw); (try simp only [zq_] at hst); obtain ⟨hcS, hfS, hzS⟩ := hst)); go_simp; (try with_reducible rfl))); (try simp only [Act.put, pz_]))
 have hlt0 : w.heap.size + 1 < W0.heap.size := hLb.lt
 refine wpAnyH_inv (Inv := Copy5 aL aLc aLn aP aPc aPn aD aDc aDn aN aNc aNn aS aSc aSn m w W0) (k := 2) ?_ ?_ ?_ 10 _ _ _ ?_
 case refine_4 =>
   exact ⟨by (exact kf_), hHeld, Nat.le_refl _, false, false, false, false, false, false, false, false, false, false, undef, undef, undef, undef, undef, undef, undef, undef, undef, undef, fun _ => 0, rfl, by kernel_rfl, rfl, .none _ _, .none _ _, .none _ _, .none _ _, .none _ _⟩
 case refine_1 =>
   rintro l a wx ⟨hk, hHeld, hup, l0, l1, l2, l3, l4, r0, r1, r2, r3, r4, v0, v1, v2, v3, v4, u0, u1, u2, u3, u4, τ, hn0, rfl, rfl, C0, C1, C2, C3, C4⟩
   obtain rfl : l0 = true := by cases l0 <;> first | rfl | (exfalso; revert hn0; simp [cb]; done) | (exfalso; revert hn0; simp [cb]; omega)
   obtain rfl : l1 = true := by cases l1 <;> first | rfl | (exfalso; revert hn0; simp [cb]; done) | (exfalso; revert hn0; simp [cb]; omega)
   obtain rfl : l2 = true := by cases l2 <;> first | rfl | (exfalso; revert hn0; simp [cb]; done) | (exfalso; revert hn0; simp [cb]; omega)
   obtain rfl : l3 = true := by cases l3 <;> first | rfl | (exfalso; revert hn0; simp [cb]; done) | (exfalso; revert hn0; simp [cb]; omega)
   obtain rfl : l4 = true := by cases l4 <;> first | rfl | (exfalso; revert hn0; simp [cb]; done) | (exfalso; revert hn0; simp [cb]; omega)
   obtain rfl : r0 = true := by cases r0 <;> first | rfl | (exfalso; revert hn0; simp [cb]; done) | (exfalso; revert hn0; simp [cb]; omega)
   obtain rfl : r1 = true := by cases r1 <;> first | rfl | (exfalso; revert hn0; simp [cb]; done) | (exfalso; revert hn0; simp [cb]; omega)
   obtain rfl : r2 = true := by cases r2 <;> first | rfl | (exfalso; revert hn0; simp [cb]; done) | (exfalso; revert hn0; simp [cb]; omega)
   obtain rfl : r3 = true := by cases r3 <;> first | rfl | (exfalso; revert hn0; simp [cb]; done) | (exfalso; revert hn0; simp [cb]; omega)
   obtain rfl : r4 = true := by cases r4 <;> first | rfl | (exfalso; revert hn0; simp [cb]; done) | (exfalso; revert hn0; simp [cb]; omega)
   obtain ⟨A0, c0, rfl, t0⟩ : ∃ A c, u0 = .slice A aLn c ∧ OwT Sw.Ent.enc 4 207 τ 1 wx W0.heap.size A c aLn m.log := by (cases C0; exact ⟨_, _, rfl, by assumption⟩)
   obtain ⟨A1, c1, rfl, t1⟩ : ∃ A c, u1 = .slice A aPn c ∧ OwT encI 1 3 τ 2 wx W0.heap.size A c aPn m.purses := by (cases C1; exact ⟨_, _, rfl, by assumption⟩)
   obtain ⟨A2, c2, rfl, t2⟩ : ∃ A c, u2 = .slice A aDn c ∧ OwT Sw.Deal.enc 5 105 τ 3 wx W0.heap.size A c aDn m.deals := by (cases C2; exact ⟨_, _, rfl, by assumption⟩)
   obtain ⟨A3, c3, rfl, t3⟩ : ∃ A c, u3 = .slice A aNn c ∧ OwT encI 1 3 τ 4 wx W0.heap.size A c aNn m.nums := by (cases C3; exact ⟨_, _, rfl, by assumption⟩)
   obtain ⟨A4, c4, rfl, t4⟩ : ∃ A c, u4 = .slice A aSn c ∧ OwT encI 1 3 τ 5 wx W0.heap.size A c aSn m.said := by (cases C4; exact ⟨_, _, rfl, by assumption⟩)
   clear C0 C1 C2 C3 C4 hn0
   refine regT 22 25 (v := ?_) rfl rfl (by kernel_rfl) (by kernel_rfl) (by kernel_rfl) (fun _ _ _ h => h) (by rfl) ?_ (by assumption) ?_
   rotate_left
   focus (intro w hSw; (try dsimp only at hSw); go_simp; (try with_reducible rfl))
   try simp only [Act.put, List.setIfInBounds_toArray, List.set_cons_zero, List.set_cons_succ]
   refine wpAnyH_ready (rs := [23]) (by kernel_rfl) (by simp) ?_
   refine AllReadyH.cons rfl (fun K hK => ?_) ?_
   rotate_left
   focus exact AllReadyH.nil
   have hLbx := hHeld.lb
   obtain ⟨hcx, hfx⟩ := Lb.rules hLbx
   go_simp
   refine hK.out _ _ ?_ (fun hHx => ?_)
   focus ((exact hqb_))
   have hb := hHeld.ch
   clear hK K hHeld hcx hfx hLbx
   (obtain ⟨hc, hf, hz⟩ := xd hb)
   have hLb3 := HeldB.lb hHx
   repeat (replace hLb3 := Lb.unset hLb3)
   obtain ⟨hcb, hfb⟩ := Lb.rules hLb3
   clear hHx
   refine wpAnyH_done (by kernel_rfl) ?_ _
   go_wp2
   refine bodyPost_ret (v := .agg #[.slice A0 aLn c0, .slice A1 aPn c1, .slice A2 aDn c2, .int .i64 m.clock, .slice A3 aNn c3, .slice A4 aSn c4]) (by simp [results, Tryz.results115, go_sem, *]) rfl ?_
   refine ⟨_, _, _, _, _, _, _, _, _, _, _, _, _, _, _, τ, rfl, OwM.of5 (t0.keepF (by (exact kf_))) (t1.keepF (by (exact kf_))) (t2.keepF (by (exact kf_))) (t3.keepF (by (exact kf_))) (t4.keepF (by (exact kf_))) (by omega), ext_⟩
 case refine_2 =>
   rintro n l a wx ⟨hk, hHeld, hup, l0, l1, l2, l3, l4, r0, r1, r2, r3, r4, v0, v1, v2, v3, v4, u0, u1, u2, u3, u4, τ, hn0, rfl, rfl, C0, C1, C2, C3, C4⟩ he
   obtain rfl : l0 = true := by (cases l0 with | true => rfl | false => exact absurd he (ready_ne (i := 0) (by kernel_rfl)))
   obtain rfl : r0 = true := by (cases r0 with | true => rfl | false => exact absurd he (ready_ne (i := 3) (by kernel_rfl)))
   obtain rfl : l1 = true := by (cases l1 with | true => rfl | false => exact absurd he (ready_ne (i := 4) (by kernel_rfl)))
   obtain rfl : r1 = true := by (cases r1 with | true => rfl | false => exact absurd he (ready_ne (i := 7) (by kernel_rfl)))
   obtain rfl : l2 = true := by (cases l2 with | true => rfl | false => exact absurd he (ready_ne (i := 8) (by kernel_rfl)))
   obtain rfl : r2 = true := by (cases r2 with | true => rfl | false => exact absurd he (ready_ne (i := 11) (by kernel_rfl)))
   obtain rfl : l3 = true := by (cases l3 with | true => rfl | false => exact absurd he (ready_ne (i := 14) (by kernel_rfl)))
   obtain rfl : r3 = true := by (cases r3 with | true => rfl | false => exact absurd he (ready_ne (i := 17) (by kernel_rfl)))
   obtain rfl : l4 = true := by (cases l4 with | true => rfl | false => exact absurd he (ready_ne (i := 18) (by kernel_rfl)))
   obtain rfl : r4 = true := by (cases r4 with | true => rfl | false => exact absurd he (ready_ne (i := 21) (by kernel_rfl)))
   simp [cb] at hn0
 case refine_3 =>
   rintro n l a wx ⟨hk, hHeld, hup, l0, l1, l2, l3, l4, r0, r1, r2, r3, r4, v0, v1, v2, v3, v4, u0, u1, u2, u3, u4, τ, hn0, rfl, rfl, C0, C1, C2, C3, C4⟩ i hi
   obtain ⟨hi0, oi, ho, hdep⟩ := mem_ready.1 hi
   clear hi
   have hi24 : i < 24 := (Array.getElem?_eq_some_iff.1 ho).1
   rcases (show i = 0 ∨ i = 1 ∨ i = 2 ∨ i = 3 ∨ i = 4 ∨ i = 5 ∨ i = 6 ∨ i = 7 ∨ i = 8 ∨ i = 9 ∨ i = 10 ∨ i = 11 ∨ i = 12 ∨ i = 13 ∨ i = 14 ∨ i = 15 ∨ i = 16 ∨ i = 17 ∨ i = 18 ∨ i = 19 ∨ i = 20 ∨ i = 21 ∨ i = 22 ∨ i = 23 by omega) with rfl | rfl | rfl | rfl | rfl | rfl | rfl | rfl | rfl | rfl | rfl | rfl | rfl | rfl | rfl | rfl | rfl | rfl | rfl | rfl | rfl | rfl | rfl | rfl
   · -- 0
     obtain rfl : l0 = false := hi0
     cases C0
     clear ho hdep
     refine wpOp_step rfl fun K hK => ?_
     go_simp
     refine hK _ _ ⟨hHeld.alloc _, hk.alloc, hHeld.alloc _, (by simp; omega), true, l1, l2, l3, l4, false, r1, r2, r3, r4, .slice (some ⟨wx.heap.size, 0, none⟩) 0 0, v1, v2, v3, v4, u0, u1, u2, u3, u4, glue τ wx.heap.size (fun _ => 1), ?_, rfl, rfl, .made _ _ _ (OwT.begun (Ow.new [] rfl rfl rfl (fun _ => rfl) (by omega) (by omega))), C1.alloc, C2.alloc, C3.alloc, C4.alloc⟩
     simp only [cb] at hn0 ⊢; simp at hn0 ⊢; omega
   · -- 1
     exact Bool.noConfusion (show true = false from hi0)
   · -- 2
     exact Bool.noConfusion (show true = false from hi0)
   · -- 3
     obtain rfl : r0 = false := hi0
     obtain rfl := Option.some.inj (show some _ = some oi from ho)
     have d := hdep ⟨0, .data⟩ (by simp) rfl
     obtain rfl : l0 = true := d
     clear ho hdep
     obtain ⟨A, c, rfl, ht⟩ : ∃ A c, v0 = .slice A 0 c ∧ OwT Sw.Ent.enc 4 207 τ 1 wx W0.heap.size A c 0 [] := by (cases C0; exact ⟨_, _, rfl, by assumption⟩)
     clear C0
     refine wpOp_step rfl fun K hK => ?_
     apply step_app el_E one_E rfl rfl rfl rfl ht.ow (Rs.at0 m1 hk) (by omega) hup
     intro A1 c1 w2 ho1 hch1 hat1 hex1 hlow1
     rw [List.nil_append] at ho1; simp only [Nat.zero_add] at ho1
     have hbx := hex1 (· = (w.heap.size + 1)) W0 hHeld.ch (Nat.le_refl _)
     have hlbx := Lb.low hlow1 hlt0 hHeld.lb
     simp only [Nat.zero_add]
     have hKF : KF 0 w w2 := kL ⟨hch1.size, hlow1⟩ hk (by omega)
     refine hK _ _ ⟨HeldB.of hbx hlbx, hKF, HeldB.of hbx hlbx, Nat.le_trans hup hch1.size, true, l1, l2, l3, l4, true, r1, r2, r3, r4, .slice A 0 c, v1, v2, v3, v4, .slice A1 aLn c1, u1, u2, u3, u4, glue τ wx.heap.size (fun _ => 1), ?_, rfl, rfl, .done _ _ _ (OwT.full ho1 ht hat1), C1.app hch1 ht.tag (by decide), C2.app hch1 ht.tag (by decide), C3.app hch1 ht.tag (by decide), C4.app hch1 ht.tag (by decide)⟩
     simp only [cb] at hn0 ⊢; simp at hn0 ⊢; omega
   · -- 4
     obtain rfl : l1 = false := hi0
     cases C1
     clear ho hdep
     refine wpOp_step rfl fun K hK => ?_
     go_simp
     refine hK _ _ ⟨hHeld.alloc _, hk.alloc, hHeld.alloc _, (by simp; omega), l0, true, l2, l3, l4, r0, false, r2, r3, r4, v0, .slice (some ⟨wx.heap.size, 0, none⟩) 0 0, v2, v3, v4, u0, u1, u2, u3, u4, glue τ wx.heap.size (fun _ => 2), ?_, rfl, rfl, C0.alloc, .made _ _ _ (OwT.begun (Ow.new [] rfl rfl rfl (fun _ => rfl) (by omega) (by omega))), C2.alloc, C3.alloc, C4.alloc⟩
     simp only [cb] at hn0 ⊢; simp at hn0 ⊢; omega
   · -- 5
     exact Bool.noConfusion (show true = false from hi0)
   · -- 6
     exact Bool.noConfusion (show true = false from hi0)
   · -- 7
     obtain rfl : r1 = false := hi0
     obtain rfl := Option.some.inj (show some _ = some oi from ho)
     have d := hdep ⟨4, .data⟩ (by simp) rfl
     obtain rfl : l1 = true := d
     clear ho hdep
     obtain ⟨A, c, rfl, ht⟩ : ∃ A c, v1 = .slice A 0 c ∧ OwT encI 1 3 τ 2 wx W0.heap.size A c 0 [] := by (cases C1; exact ⟨_, _, rfl, by assumption⟩)
     clear C1
     refine wpOp_step rfl fun K hK => ?_
     apply step_app el_I one_I rfl rfl rfl rfl ht.ow (Rs.at0 m2 hk) (by omega) hup
     intro A1 c1 w2 ho1 hch1 hat1 hex1 hlow1
     rw [List.nil_append] at ho1; simp only [Nat.zero_add] at ho1
     have hbx := hex1 (· = (w.heap.size + 1)) W0 hHeld.ch (Nat.le_refl _)
     have hlbx := Lb.low hlow1 hlt0 hHeld.lb
     simp only [Nat.zero_add]
     have hKF : KF 0 w w2 := kL ⟨hch1.size, hlow1⟩ hk (by omega)
     refine hK _ _ ⟨HeldB.of hbx hlbx, hKF, HeldB.of hbx hlbx, Nat.le_trans hup hch1.size, l0, true, l2, l3, l4, r0, true, r2, r3, r4, v0, .slice A 0 c, v2, v3, v4, u0, .slice A1 aPn c1, u2, u3, u4, glue τ wx.heap.size (fun _ => 2), ?_, rfl, rfl, C0.app hch1 ht.tag (by decide), .done _ _ _ (OwT.full ho1 ht hat1), C2.app hch1 ht.tag (by decide), C3.app hch1 ht.tag (by decide), C4.app hch1 ht.tag (by decide)⟩
     simp only [cb] at hn0 ⊢; simp at hn0 ⊢; omega
   · -- 8
     obtain rfl : l2 = false := hi0
     cases C2
     clear ho hdep
     refine wpOp_step rfl fun K hK => ?_
     go_simp
     refine hK _ _ ⟨hHeld.alloc _, hk.alloc, hHeld.alloc _, (by simp; omega), l0, l1, true, l3, l4, r0, r1, false, r3, r4, v0, v1, .slice (some ⟨wx.heap.size, 0, none⟩) 0 0, v3, v4, u0, u1, u2, u3, u4, glue τ wx.heap.size (fun _ => 3), ?_, rfl, rfl, C0.alloc, C1.alloc, .made _ _ _ (OwT.begun (Ow.new [] rfl rfl rfl (fun _ => rfl) (by omega) (by omega))), C3.alloc, C4.alloc⟩
     simp only [cb] at hn0 ⊢; simp at hn0 ⊢; omega
   · -- 9
     exact Bool.noConfusion (show true = false from hi0)
   · -- 10
     exact Bool.noConfusion (show true = false from hi0)
   · -- 11
     obtain rfl : r2 = false := hi0
     obtain rfl := Option.some.inj (show some _ = some oi from ho)
     have d := hdep ⟨8, .data⟩ (by simp) rfl
     obtain rfl : l2 = true := d
     clear ho hdep
     obtain ⟨A, c, rfl, ht⟩ : ∃ A c, v2 = .slice A 0 c ∧ OwT Sw.Deal.enc 5 105 τ 3 wx W0.heap.size A c 0 [] := by (cases C2; exact ⟨_, _, rfl, by assumption⟩)
     clear C2
     refine wpOp_step rfl fun K hK => ?_
     apply step_app el_D one_D rfl rfl rfl rfl ht.ow (Rs.at0 m3 hk) (by omega) hup
     intro A1 c1 w2 ho1 hch1 hat1 hex1 hlow1
     rw [List.nil_append] at ho1; simp only [Nat.zero_add] at ho1
     have hbx := hex1 (· = (w.heap.size + 1)) W0 hHeld.ch (Nat.le_refl _)
     have hlbx := Lb.low hlow1 hlt0 hHeld.lb
     simp only [Nat.zero_add]
     have hKF : KF 0 w w2 := kL ⟨hch1.size, hlow1⟩ hk (by omega)
     refine hK _ _ ⟨HeldB.of hbx hlbx, hKF, HeldB.of hbx hlbx, Nat.le_trans hup hch1.size, l0, l1, true, l3, l4, r0, r1, true, r3, r4, v0, v1, .slice A 0 c, v3, v4, u0, u1, .slice A1 aDn c1, u3, u4, glue τ wx.heap.size (fun _ => 3), ?_, rfl, rfl, C0.app hch1 ht.tag (by decide), C1.app hch1 ht.tag (by decide), .done _ _ _ (OwT.full ho1 ht hat1), C3.app hch1 ht.tag (by decide), C4.app hch1 ht.tag (by decide)⟩
     simp only [cb] at hn0 ⊢; simp at hn0 ⊢; omega
   · -- 12
     exact Bool.noConfusion (show true = false from hi0)
   · -- 13
     exact Bool.noConfusion (show true = false from hi0)
   · -- 14
     obtain rfl : l3 = false := hi0
     cases C3
     clear ho hdep
     refine wpOp_step rfl fun K hK => ?_
     go_simp
     refine hK _ _ ⟨hHeld.alloc _, hk.alloc, hHeld.alloc _, (by simp; omega), l0, l1, l2, true, l4, r0, r1, r2, false, r4, v0, v1, v2, .slice (some ⟨wx.heap.size, 0, none⟩) 0 0, v4, u0, u1, u2, u3, u4, glue τ wx.heap.size (fun _ => 4), ?_, rfl, rfl, C0.alloc, C1.alloc, C2.alloc, .made _ _ _ (OwT.begun (Ow.new [] rfl rfl rfl (fun _ => rfl) (by omega) (by omega))), C4.alloc⟩
     simp only [cb] at hn0 ⊢; simp at hn0 ⊢; omega
   · -- 15
     exact Bool.noConfusion (show true = false from hi0)
   · -- 16
     exact Bool.noConfusion (show true = false from hi0)
   · -- 17
     obtain rfl : r3 = false := hi0
     obtain rfl := Option.some.inj (show some _ = some oi from ho)
     have d := hdep ⟨14, .data⟩ (by simp) rfl
     obtain rfl : l3 = true := d
     clear ho hdep
     obtain ⟨A, c, rfl, ht⟩ : ∃ A c, v3 = .slice A 0 c ∧ OwT encI 1 3 τ 4 wx W0.heap.size A c 0 [] := by (cases C3; exact ⟨_, _, rfl, by assumption⟩)
     clear C3
     refine wpOp_step rfl fun K hK => ?_
     apply step_app el_I one_I rfl rfl rfl rfl ht.ow (Rs.at0 m4 hk) (by omega) hup
     intro A1 c1 w2 ho1 hch1 hat1 hex1 hlow1
     rw [List.nil_append] at ho1; simp only [Nat.zero_add] at ho1
     have hbx := hex1 (· = (w.heap.size + 1)) W0 hHeld.ch (Nat.le_refl _)
     have hlbx := Lb.low hlow1 hlt0 hHeld.lb
     simp only [Nat.zero_add]
     have hKF : KF 0 w w2 := kL ⟨hch1.size, hlow1⟩ hk (by omega)
     refine hK _ _ ⟨HeldB.of hbx hlbx, hKF, HeldB.of hbx hlbx, Nat.le_trans hup hch1.size, l0, l1, l2, true, l4, r0, r1, r2, true, r4, v0, v1, v2, .slice A 0 c, v4, u0, u1, u2, .slice A1 aNn c1, u4, glue τ wx.heap.size (fun _ => 4), ?_, rfl, rfl, C0.app hch1 ht.tag (by decide), C1.app hch1 ht.tag (by decide), C2.app hch1 ht.tag (by decide), .done _ _ _ (OwT.full ho1 ht hat1), C4.app hch1 ht.tag (by decide)⟩
     simp only [cb] at hn0 ⊢; simp at hn0 ⊢; omega
   · -- 18
     obtain rfl : l4 = false := hi0
     cases C4
     clear ho hdep
     refine wpOp_step rfl fun K hK => ?_
     go_simp
     refine hK _ _ ⟨hHeld.alloc _, hk.alloc, hHeld.alloc _, (by simp; omega), l0, l1, l2, l3, true, r0, r1, r2, r3, false, v0, v1, v2, v3, .slice (some ⟨wx.heap.size, 0, none⟩) 0 0, u0, u1, u2, u3, u4, glue τ wx.heap.size (fun _ => 5), ?_, rfl, rfl, C0.alloc, C1.alloc, C2.alloc, C3.alloc, .made _ _ _ (OwT.begun (Ow.new [] rfl rfl rfl (fun _ => rfl) (by omega) (by omega)))⟩
     simp only [cb] at hn0 ⊢; simp at hn0 ⊢; omega
   · -- 19
     exact Bool.noConfusion (show true = false from hi0)
   · -- 20
     exact Bool.noConfusion (show true = false from hi0)
   · -- 21
     obtain rfl : r4 = false := hi0
     obtain rfl := Option.some.inj (show some _ = some oi from ho)
     have d := hdep ⟨18, .data⟩ (by simp) rfl
     obtain rfl : l4 = true := d
     clear ho hdep
     obtain ⟨A, c, rfl, ht⟩ : ∃ A c, v4 = .slice A 0 c ∧ OwT encI 1 3 τ 5 wx W0.heap.size A c 0 [] := by (cases C4; exact ⟨_, _, rfl, by assumption⟩)
     clear C4
     refine wpOp_step rfl fun K hK => ?_
     apply step_app el_I one_I rfl rfl rfl rfl ht.ow (Rs.at0 m5 hk) (by omega) hup
     intro A1 c1 w2 ho1 hch1 hat1 hex1 hlow1
     rw [List.nil_append] at ho1; simp only [Nat.zero_add] at ho1
     have hbx := hex1 (· = (w.heap.size + 1)) W0 hHeld.ch (Nat.le_refl _)
     have hlbx := Lb.low hlow1 hlt0 hHeld.lb
     simp only [Nat.zero_add]
     have hKF : KF 0 w w2 := kL ⟨hch1.size, hlow1⟩ hk (by omega)
     refine hK _ _ ⟨HeldB.of hbx hlbx, hKF, HeldB.of hbx hlbx, Nat.le_trans hup hch1.size, l0, l1, l2, l3, true, r0, r1, r2, r3, true, v0, v1, v2, v3, .slice A 0 c, u0, u1, u2, u3, .slice A1 aSn c1, glue τ wx.heap.size (fun _ => 5), ?_, rfl, rfl, C0.app hch1 ht.tag (by decide), C1.app hch1 ht.tag (by decide), C2.app hch1 ht.tag (by decide), C3.app hch1 ht.tag (by decide), .done _ _ _ (OwT.full ho1 ht hat1)⟩
     simp only [cb] at hn0 ⊢; simp at hn0 ⊢; omega
   · -- 22
     obtain rfl := Option.some.inj (show some _ = some oi from ho)
     obtain rfl : r0 = true := hdep ⟨3, .data⟩ (by simp) rfl
     obtain rfl : l0 = true := by (cases C0; rfl)
     obtain rfl : r1 = true := hdep ⟨7, .data⟩ (by simp) rfl
     obtain rfl : l1 = true := by (cases C1; rfl)
     obtain rfl : r2 = true := hdep ⟨11, .data⟩ (by simp) rfl
     obtain rfl : l2 = true := by (cases C2; rfl)
     obtain rfl : r3 = true := hdep ⟨17, .data⟩ (by simp) rfl
     obtain rfl : l3 = true := by (cases C3; rfl)
     obtain rfl : r4 = true := hdep ⟨21, .data⟩ (by simp) rfl
     obtain rfl : l4 = true := by (cases C4; rfl)
     simp [cb] at hn0
   · -- 23
     obtain rfl := Option.some.inj (show some _ = some oi from ho)
     exact Bool.noConfusion (show false = true from hdep ⟨22, .data⟩ (by simp) rfl)
end Go.Proofs.YtnnoiagommiapaaGreat
