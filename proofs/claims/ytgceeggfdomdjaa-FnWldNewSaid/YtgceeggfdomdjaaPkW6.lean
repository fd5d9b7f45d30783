/-
  Texts joined: Mkt2, Mak, Plain4, Plain5, Plain8, WldNew, NewSt, Gate, Gate2, Gate3.
-/
import Derived.Test.YtgceeggfdomdjaaPkW5
import Derived.Test.YtgceeggfdomdjaaPkW4
import Derived.Test.YtgceeggfdomdjaaPkW3
import Derived.Test.YtgceeggfdomdjaaPkW2
namespace Go.Proofs.Ytgceeggfdomdjaa
set_option maxRecDepth 100000
set_option linter.unusedSimpArgs false
set_option linter.unusedVariables false
open Go.RowKit Go
set_option maxHeartbeats 1000000

/-- Behind an append to what lies from lo on, all that was below is as it was. -/
theorem kL {lo l0 : Nat} {w0 w w' : World} (h : w.heap.size ≤ w'.heap.size ∧ ∀ b, b < lo → w'.heap[b]? = w.heap[b]?) (k : KF l0 w0 w) (hl : w0.heap.size ≤ lo) : KF l0 w0 w' :=
  ⟨Nat.le_trans k.size h.1, fun b h1 h2 => (h.2 b (by omega)).trans (k.block b h1 h2)⟩
/-- Five pieces that were made one behind the other are a market. -/
theorem OwM.build {w1 w2 w3 w4 w5 W : World} {lo l1 l2 l3 l4 l5 : Nat} {aL : Option Addr} {aLc aLn : Nat} {aP : Option Addr} {aPc aPn : Nat} {aD : Option Addr} {aDc aDn : Nat} {aN : Option Addr} {aNc aNn : Nat} {aS : Option Addr} {aSc aSn : Nat} {m : Sw.Mkt}
    (h1 : OwE w1 l1 aL aLc aLn m.log) (h2 : OwI w2 l2 aP aPc aPn m.purses) (h3 : OwD w3 l3 aD aDc aDn m.deals) (h4 : OwI w4 l4 aN aNc aNn m.nums) (h5 : OwI w5 l5 aS aSc aSn m.said)
    (g2 : w1.heap.size ≤ l2) (g3 : w2.heap.size ≤ l3) (g4 : w3.heap.size ≤ l4) (g5 : w4.heap.size ≤ l5) (b1 : l1 ≤ w1.heap.size) (b2 : l2 ≤ w2.heap.size) (b3 : l3 ≤ w3.heap.size) (b4 : l4 ≤ w4.heap.size) (hl : lo ≤ l1)
    (k1 : KF l1 w1 W) (k2 : KF l2 w2 W) (k3 : KF l3 w3 W) (k4 : KF l4 w4 W) (k5 : KF l5 w5 W) :
    OwM (glue (fun _ => 1) w1.heap.size (glue (fun _ => 2) w2.heap.size (glue (fun _ => 3) w3.heap.size (glue (fun _ => 4) w4.heap.size (fun _ => 5))))) W lo aL aLc aLn aP aPc aPn aD aDc aDn aN aNc aNn aS aSc aSn m := by
  have p1 : OwTE (fun _ => 1) 1 w1 l1 aL aLc aLn m.log := ⟨h1, fun _ _ => rfl⟩
  have p2 : OwTI (fun _ => 2) 2 w2 l2 aP aPc aPn m.purses := ⟨h2, fun _ _ => rfl⟩
  have p3 : OwTD (fun _ => 3) 3 w3 l3 aD aDc aDn m.deals := ⟨h3, fun _ _ => rfl⟩
  have p4 : OwTI (fun _ => 4) 4 w4 l4 aN aNc aNn m.nums := ⟨h4, fun _ _ => rfl⟩
  have p5 : OwTI (fun _ => 5) 5 w5 l5 aS aSc aSn m.said := ⟨h5, fun _ _ => rfl⟩
  refine ⟨((p1.glueL (Nat.le_refl _)).keepF k1).less (by omega), ?_, ?_, ?_, ?_⟩
  · exact (((p2.glueL (Nat.le_refl _)).glueR g2).keepF k2).less (by omega)
  · exact ((((p3.glueL (Nat.le_refl _)).glueR g3).glueR (by omega)).keepF k3).less (by omega)
  · exact (((((p4.glueL (Nat.le_refl _)).glueR g4).glueR (by omega)).glueR (by omega)).keepF k4).less (by omega)
  · exact (((((p5.glueR g5).glueR (by omega)).glueR (by omega)).glueR (by omega)).keepF k5).less (by omega)
/-- How far one copy has come: nothing, an empty slice, all of it. -/
inductive CopySt {α : Type} (enc : α → List Value) (sz : Nat) (e : TypeId) (τ : Nat → Nat) (t : Nat) (w : World) (lo n : Nat) (xs : List α) : Bool → Bool → Value → Value → Prop
  | none (v u : Value) : CopySt enc sz e τ t w lo n xs false false v u
  | made (A : Option Addr) (c : Nat) (u : Value) (h : OwT enc sz e τ t w lo A c 0 []) : CopySt enc sz e τ t w lo n xs true false (.slice A 0 c) u
  | done (v : Value) (A : Option Addr) (c : Nat) (h : OwT enc sz e τ t w lo A c n xs) : CopySt enc sz e τ t w lo n xs true true v (.slice A n c)
section
variable {α : Type} {enc : α → List Value} {sz : Nat} {e : TypeId} {τ τ' : Nat → Nat} {t s : Nat} {w w' : World} {lo n c : Nat} {xs : List α} {l r : Bool} {v u : Value} {A A' : Option Addr}
theorem CopySt.mv (h : CopySt enc sz e τ t w lo n xs l r v u) (f : ∀ A c k ys, OwT enc sz e τ t w lo A c k ys → OwT enc sz e τ' t w' lo A c k ys) : CopySt enc sz e τ' t w' lo n xs l r v u := by
  cases h with
  | none => exact .none _ _
  | made A c u h => exact .made _ _ _ (f _ _ _ _ h)
  | done v A c h => exact .done _ _ _ (f _ _ _ _ h)
/-- Another copy has been begun. -/
theorem CopySt.alloc {o : Obj} (h : CopySt enc sz e τ t w lo n xs l r v u) : CopySt enc sz e (glue τ w.heap.size (fun _ => s)) t (w.alloc o) lo n xs l r v u :=
  h.mv fun _ _ _ _ h => (h.glueL (Nat.le_refl _)).keep (KT.refl _ _ _ _).alloc
theorem glue_tag {b k : Nat} (h : τ b = s) : glue τ k (fun _ => s) b = s := by
  unfold glue
  split
  · exact h
  · rfl
/-- Another copy has been filled. -/
theorem CopySt.app (h : CopySt enc sz e τ t w lo n xs l r v u) (hb : Ch (atA A) w w') (ht : ∀ a, A = some a → τ a.block = s) (hne : t ≠ s) : CopySt enc sz e (glue τ w.heap.size (fun _ => s)) t w' lo n xs l r v u :=
  h.mv fun _ _ _ _ h => (h.glueL (Nat.le_refl _)).keep (KT.ch hb (KT.refl _ _ _ _) fun i ⟨a, ha, hi⟩ => .inr (by rw [hi, glue_tag (ht a ha)]; exact Ne.symm hne))
theorem OwT.begun {T : TypeId} (h : Ow enc sz e (w.alloc (.cells #[] T)) lo (some ⟨w.heap.size, 0, Option.none⟩) 0 0 []) : OwT enc sz e (glue τ w.heap.size (fun _ => t)) t (w.alloc (.cells #[] T)) lo (some ⟨w.heap.size, 0, Option.none⟩) 0 0 [] :=
  ⟨h, fun a ha => by cases ha; simp [glue]⟩
theorem OwT.full {ys : List α} {m d lo' : Nat} (h : Ow enc sz e w' lo' A' c n xs) (k : OwT enc sz e τ t w lo A d m ys) (hat : ∀ b, A' = some b → A = some b ∨ w.heap.size ≤ b.block) : OwT enc sz e (glue τ w.heap.size (fun _ => t)) t w' lo' A' c n xs :=
  ⟨h, fun a ha => by
    rcases hat a ha with h1 | h1
    · unfold glue; rw [if_pos (k.ow.blk h1).2]; exact k.tag a h1
    · unfold glue; rw [if_neg (by omega)]⟩
end
theorem ready_ne {md : Region.Mode} {ops : Array Oper} {l : Array Bool} {i : Nat} (h : (Region.ready md ops l).contains i = true) : Region.ready md ops l ≠ [] := by
  intro he; rw [he] at h; simp at h
def cb (b : Bool) : Nat := if b then 0 else 1
/-- The five copies' state, where so many operations are still to come. -/
structure Copy5 (aL : Option Addr) (aLc aLn : Nat) (aP : Option Addr) (aPc aPn : Nat) (aD : Option Addr) (aDc aDn : Nat) (aN : Option Addr) (aNc aNn : Nat) (aS : Option Addr) (aSc aSn : Nat) (m : Sw.Mkt) (w W0 : World) (n : Nat) (l : Array Bool) (a : Act) (wx : World) : Prop where
  keep : KF 0 w wx
  held : HeldB (w.heap.size + 1) 6 W0 wx
  up : W0.heap.size ≤ wx.heap.size
  st : ∃ (l0 l1 l2 l3 l4 r0 r1 r2 r3 r4 : Bool) (v0 v1 v2 v3 v4 u0 u1 u2 u3 u4 : Value) (τ : Nat → Nat), n = cb l0 + cb l1 + cb l2 + cb l3 + cb l4 + cb r0 + cb r1 + cb r2 + cb r3 + cb r4 ∧ l = #[l0, true, true, r0, l1, true, true, r1, l2, true, true, r2, true, true, l3, true, true, r3, l4, true, true, r4, false, false] ∧ a = ⟨#[.agg #[.slice aL aLn aLc, .slice aP aPn aPc, .slice aD aDn aDc, .int .i64 m.clock, .slice aN aNn aNc, .slice aS aSn aSc], .pointer (some ⟨w.heap.size, 0, none⟩), .pointer (some ⟨w.heap.size + 1, 0, none⟩), v0, .pointer (some ⟨w.heap.size, 0, none⟩), .slice aL aLn aLc, u0, v1, .pointer (some ⟨w.heap.size, 1, none⟩), .slice aP aPn aPc, u1, v2, .pointer (some ⟨w.heap.size, 2, none⟩), .slice aD aDn aDc, u2, .pointer (some ⟨w.heap.size, 3, none⟩), .int .i64 m.clock, v3, .pointer (some ⟨w.heap.size, 4, none⟩), .slice aN aNn aNc, u3, v4, .pointer (some ⟨w.heap.size, 5, none⟩), .slice aS aSn aSc, u4, undef], []⟩ ∧ CopySt Sw.Ent.enc 4 134 τ 1 wx W0.heap.size aLn m.log l0 r0 v0 u0 ∧ CopySt encI 1 3 τ 2 wx W0.heap.size aPn m.purses l1 r1 v1 u1 ∧ CopySt Sw.Deal.enc 5 73 τ 3 wx W0.heap.size aDn m.deals l2 r2 v2 u2 ∧ CopySt encI 1 3 τ 4 wx W0.heap.size aNn m.nums l3 r3 v3 u3 ∧ CopySt encI 1 3 τ 5 wx W0.heap.size aSn m.said l4 r4 v4 u4

/-- Five pieces with a mark each are a market. -/
theorem OwM.of5 {W : World} {lo l0 : Nat} {τ : Nat → Nat} {aL : Option Addr} {aLc aLn : Nat} {aP : Option Addr} {aPc aPn : Nat} {aD : Option Addr} {aDc aDn : Nat} {aN : Option Addr} {aNc aNn : Nat} {aS : Option Addr} {aSc aSn : Nat} {m : Sw.Mkt} (h1 : OwT Sw.Ent.enc 4 134 τ 1 W l0 aL aLc aLn m.log) (h2 : OwT encI 1 3 τ 2 W l0 aP aPc aPn m.purses) (h3 : OwT Sw.Deal.enc 5 73 τ 3 W l0 aD aDc aDn m.deals) (h4 : OwT encI 1 3 τ 4 W l0 aN aNc aNn m.nums) (h5 : OwT encI 1 3 τ 5 W l0 aS aSc aSn m.said) (hl : lo ≤ l0) : OwM τ W lo aL aLc aLn aP aPc aPn aD aDc aDn aN aNc aNn aS aSc aSn m :=
  ⟨h1.less hl, h2.less hl, h3.less hl, h4.less hl, h5.less hl⟩

theorem sMktCopy_c (aL : Option Addr) (aLc aLn : Nat) (aP : Option Addr) (aPc aPn : Nat) (aD : Option Addr) (aDc aDn : Nat) (aN : Option Addr) (aNc aNn : Nat) (aS : Option Addr) (aSc aSn : Nat) (m : Sw.Mkt) (w : World) (hm : RM w 0 aL aLc aLn aP aPc aPn aD aDc aDn aN aNc aNn aS aSc aSn m) (hn : aLn + aPn + aDn + aNn + aSn ≤ 1048576) : Calls Try.prog 102 #[.agg #[.slice aL aLn aLc, .slice aP aPn aPc, .slice aD aDn aDc, .int .i64 m.clock, .slice aN aNn aNc, .slice aS aSn aSc]] w fun E w' => ∃ bL bLc bLn bP bPc bPn bD bDc bDn bN bNc bNn bS bSc bSn τ, E = .returned (.agg #[.slice bL bLn bLc, .slice bP bPn bPc, .slice bD bDn bDc, .int .i64 m.clock, .slice bN bNn bNc, .slice bS bSn bSc]) ∧ OwM τ w' w.heap.size bL bLc bLn bP bPc bPn bD bDc bDn bN bNc bNn bS bSc bSn m ∧ Ex w w' := by
  obtain ⟨m1, m2, m3, m4, m5⟩ := hm
  go_enter Try.func102, Try.ntmps102
  go_wp2_with fail
  (refine wp_name ?_; intro W0 hb0; have hst := xr hb0; (try simp only [zA, zC, zD, zN] at hst); obtain ⟨hc0, hf0, hz0⟩ := hst; have hLb : Lb W0 (w.heap.size + 1) 6 := Lb.ex (by exact lbc_) hb0; refine wp_region_held_drew (S := fun w' => HeldB (w.heap.size + 1) 6 W0 w') (by kernel_rfl) ?_ (fun hHeld => ?_); (focus ((try dsimp only); (first | with_reducible assumption | with_reducible exact HeldB.start hLb | with_reducible exact HeldB.of (by assumption) (by assumption) | ((repeat (first | with_reducible refine HeldB.set ?_ (by first | exact Or.inl rfl | exact Or.inr (by simp only [zA, zC, zD, zN]; omega) | exact Or.inr (by omega)) | with_reducible refine HeldB.alloc ?_ _ | with_reducible refine HeldB.drew ?_)); (first | with_reducible assumption | with_reducible exact HeldB.refl hLb | with_reducible exact HeldB.of (by assumption) (by assumption) | with_reducible exact HeldB.ex (by assumption) (by assumption)))))); refine regT 1 4 (v := ?_) rfl rfl (by kernel_rfl) (by kernel_rfl) (by kernel_rfl) (fun _ _ _ h => h) (by rfl) ?_ (by assumption) ?_; rotate_left; (focus (intro w hSw; (try dsimp only at hSw); (try (have hst := xc (HeldB.ch hSw); (try simp only [zA, zC, zD, zN] at hst); obtain ⟨hcS, hfS, hzS⟩ := hst)); go_simp; (try with_reducible rfl))); (try simp only [Act.put, List.setIfInBounds_toArray, List.set_cons_zero, List.set_cons_succ]); refine regT 2 5 (v := ?_) rfl rfl (by kernel_rfl) (by kernel_rfl) (by kernel_rfl) (fun _ _ _ h => h) (by rfl) ?_ (by assumption) ?_; rotate_left; (focus (intro w hSw; (try dsimp only at hSw); (try (have hst := xc (HeldB.ch hSw); (try simp only [zA, zC, zD, zN] at hst); obtain ⟨hcS, hfS, hzS⟩ := hst)); go_simp; (try with_reducible rfl))); (try simp only [Act.put, List.setIfInBounds_toArray, List.set_cons_zero, List.set_cons_succ]); refine regT 5 8 (v := ?_) rfl rfl (by kernel_rfl) (by kernel_rfl) (by kernel_rfl) (fun _ _ _ h => h) (by rfl) ?_ (by assumption) ?_; rotate_left; (focus (intro w hSw; (try dsimp only at hSw); (try (have hst := xc (HeldB.ch hSw); (try simp only [zA, zC, zD, zN] at hst); obtain ⟨hcS, hfS, hzS⟩ := hst)); go_simp; (try with_reducible rfl))); (try simp only [Act.put, List.setIfInBounds_toArray, List.set_cons_zero, List.set_cons_succ]); refine regT 6 9 (v := ?_) rfl rfl (by kernel_rfl) (by kernel_rfl) (by kernel_rfl) (fun _ _ _ h => h) (by rfl) ?_ (by assumption) ?_; rotate_left; (focus (intro w hSw; (try dsimp only at hSw); (try (have hst := xc (HeldB.ch hSw); (try simp only [zA, zC, zD, zN] at hst); obtain ⟨hcS, hfS, hzS⟩ := hst)); go_simp; (try with_reducible rfl))); (try simp only [Act.put, List.setIfInBounds_toArray, List.set_cons_zero, List.set_cons_succ]); refine regT 9 12 (v := ?_) rfl rfl (by kernel_rfl) (by kernel_rfl) (by kernel_rfl) (fun _ _ _ h => h) (by rfl) ?_ (by assumption) ?_; rotate_left; (focus (intro w hSw; (try dsimp only at hSw); (try (have hst := xc (HeldB.ch hSw); (try simp only [zA, zC, zD, zN] at hst); obtain ⟨hcS, hfS, hzS⟩ := hst)); go_simp; (try with_reducible rfl))); (try simp only [Act.put, List.setIfInBounds_toArray, List.set_cons_zero, List.set_cons_succ]); refine regT 10 13 (v := ?_) rfl rfl (by kernel_rfl) (by kernel_rfl) (by kernel_rfl) (fun _ _ _ h => h) (by rfl) ?_ (by assumption) ?_; rotate_left; (focus (intro w hSw; (try dsimp only at hSw); (try (have hst := xc (HeldB.ch hSw); (try simp only [zA, zC, zD, zN] at hst); obtain ⟨hcS, hfS, hzS⟩ := hst)); go_simp; (try with_reducible rfl))); (try simp only [Act.put, List.setIfInBounds_toArray, List.set_cons_zero, List.set_cons_succ]); refine regT 12 15 (v := ?_) rfl rfl (by kernel_rfl) (by kernel_rfl) (by kernel_rfl) (fun _ _ _ h => h) (by rfl) ?_ (by assumption) ?_; rotate_left; (focus (intro w hSw; (try dsimp only at hSw); (try (have hst := xc (HeldB.ch hSw); (try simp only [zA, zC, zD, zN] at hst); obtain ⟨hcS, hfS, hzS⟩ := hst)); go_simp; (try with_reducible rfl))); (try simp only [Act.put, List.setIfInBounds_toArray, List.set_cons_zero, List.set_cons_succ]); refine regT 13 16 (v := ?_) rfl rfl (by kernel_rfl) (by kernel_rfl) (by kernel_rfl) (fun _ _ _ h => h) (by rfl) ?_ (by assumption) ?_; rotate_left; (focus (intro w hSw; (try dsimp only at hSw); (try (have hst := xc (HeldB.ch hSw); (try simp only [zA, zC, zD, zN] at hst); obtain ⟨hcS, hfS, hzS⟩ := hst)); go_simp; (try with_reducible rfl))); (try simp only [Act.put, List.setIfInBounds_toArray, List.set_cons_zero, List.set_cons_succ]); refine regT 15 18 (v := ?_) rfl rfl (by kernel_rfl) (by kernel_rfl) (by kernel_rfl) (fun _ _ _ h => h) (by rfl) ?_ (by assumption) ?_; rotate_left; (focus (intro w hSw; (try dsimp only at hSw); (try (have hst := xc (HeldB.ch hSw); (try simp only [zA, zC, zD, zN] at hst); obtain ⟨hcS, hfS, hzS⟩ := hst)); go_simp; (try with_reducible rfl))); (try simp only [Act.put, List.setIfInBounds_toArray, List.set_cons_zero, List.set_cons_succ]); refine regT 16 19 (v := ?_) rfl rfl (by kernel_rfl) (by kernel_rfl) (by kernel_rfl) (fun _ _ _ h => h) (by rfl) ?_ (by assumption) ?_; rotate_left; (focus (intro w hSw; (try dsimp only at hSw); (try (have hst := xc (HeldB.ch hSw); (try simp only [zA, zC, zD, zN] at hst); obtain ⟨hcS, hfS, hzS⟩ := hst)); go_simp; (try with_reducible rfl))); (try simp only [Act.put, List.setIfInBounds_toArray, List.set_cons_zero, List.set_cons_succ]); refine regT 19 22 (v := ?_) rfl rfl (by kernel_rfl) (by kernel_rfl) (by kernel_rfl) (fun _ _ _ h => h) (by rfl) ?_ (by assumption) ?_; rotate_left; (focus (intro w hSw; (try dsimp only at hSw); (try (have hst := xc (HeldB.ch hSw); (try simp only [zA, zC, zD, zN] at hst); obtain ⟨hcS, hfS, hzS⟩ := hst)); go_simp; (try with_reducible rfl))); (try simp only [Act.put, List.setIfInBounds_toArray, List.set_cons_zero, List.set_cons_succ]); refine regT 20 23 (v := ?_) rfl rfl (by kernel_rfl) (by kernel_rfl) (by kernel_rfl) (fun _ _ _ h => h) (by rfl) ?_ (by assumption) ?_; rotate_left; (focus (intro w hSw; (try dsimp only at hSw); (try (have hst := xc (HeldB.ch hSw); (try simp only [zA, zC, zD, zN] at hst); obtain ⟨hcS, hfS, hzS⟩ := hst)); go_simp; (try with_reducible rfl))); (try simp only [Act.put, List.setIfInBounds_toArray, List.set_cons_zero, List.set_cons_succ]))
  have hlt0 : w.heap.size + 1 < W0.heap.size := hLb.lt
  refine wpAnyH_inv (Inv := Copy5 aL aLc aLn aP aPc aPn aD aDc aDn aN aNc aNn aS aSc aSn m w W0) (k := 2) ?_ ?_ ?_ 10 _ _ _ ?_
  case refine_4 =>
    exact ⟨by (exact kf_), hHeld, Nat.le_refl _, false, false, false, false, false, false, false, false, false, false, undef, undef, undef, undef, undef, undef, undef, undef, undef, undef, fun _ => 0, rfl, by kernel_rfl, rfl, .none _ _, .none _ _, .none _ _, .none _ _, .none _ _⟩
  case refine_1 =>
    rintro l a wx ⟨hk, hHeld, hup, l0, l1, l2, l3, l4, r0, r1, r2, r3, r4, v0, v1, v2, v3, v4, u0, u1, u2, u3, u4, τ, hn0, rfl, rfl, C0, C1, C2, C3, C4⟩
    obtain rfl : l0 = true := by cases l0 <;> first | rfl | (exfalso; revert hn0; simp [cb]; done) | (exfalso; revert hn0; simp [cb]; omega)
    obtain rfl : l1 = true := by cases l1 <;> first | rfl | (exfalso; revert hn0; simp [cb]; done) | (exfalso; revert hn0; simp [cb]; omega)
    obtain rfl : l2 = true := by cases l2 <;> first | rfl | (exfalso; revert hn0; simp [cb]; done) | (exfalso; revert hn0; simp [cb]; omega)
    obtain rfl : l3 = true := by cases l3 <;> first | rfl | (exfalso; revert hn0; simp [cb]; done) | (exfalso; revert hn0; simp [cb]; omega)
    obtain rfl : l4 = true := by cases l4 <;> first | rfl | (exfalso; revert hn0; simp [cb]; done) | (exfalso; revert hn0; simp [cb]; omega)
    obtain rfl : r0 = true := by cases r0 <;> first | rfl | (exfalso; revert hn0; simp [cb]; done) | (exfalso; revert hn0; simp [cb]; omega)
    obtain rfl : r1 = true := by cases r1 <;> first | rfl | (exfalso; revert hn0; simp [cb]; done) | (exfalso; revert hn0; simp [cb]; omega)
    obtain rfl : r2 = true := by cases r2 <;> first | rfl | (exfalso; revert hn0; simp [cb]; done) | (exfalso; revert hn0; simp [cb]; omega)
    obtain rfl : r3 = true := by cases r3 <;> first | rfl | (exfalso; revert hn0; simp [cb]; done) | (exfalso; revert hn0; simp [cb]; omega)
    obtain rfl : r4 = true := by cases r4 <;> first | rfl | (exfalso; revert hn0; simp [cb]; done) | (exfalso; revert hn0; simp [cb]; omega)
    obtain ⟨A0, c0, rfl, t0⟩ : ∃ A c, u0 = .slice A aLn c ∧ OwT Sw.Ent.enc 4 134 τ 1 wx W0.heap.size A c aLn m.log := by (cases C0; exact ⟨_, _, rfl, by assumption⟩)
    obtain ⟨A1, c1, rfl, t1⟩ : ∃ A c, u1 = .slice A aPn c ∧ OwT encI 1 3 τ 2 wx W0.heap.size A c aPn m.purses := by (cases C1; exact ⟨_, _, rfl, by assumption⟩)
    obtain ⟨A2, c2, rfl, t2⟩ : ∃ A c, u2 = .slice A aDn c ∧ OwT Sw.Deal.enc 5 73 τ 3 wx W0.heap.size A c aDn m.deals := by (cases C2; exact ⟨_, _, rfl, by assumption⟩)
    obtain ⟨A3, c3, rfl, t3⟩ : ∃ A c, u3 = .slice A aNn c ∧ OwT encI 1 3 τ 4 wx W0.heap.size A c aNn m.nums := by (cases C3; exact ⟨_, _, rfl, by assumption⟩)
    obtain ⟨A4, c4, rfl, t4⟩ : ∃ A c, u4 = .slice A aSn c ∧ OwT encI 1 3 τ 5 wx W0.heap.size A c aSn m.said := by (cases C4; exact ⟨_, _, rfl, by assumption⟩)
    clear C0 C1 C2 C3 C4 hn0
    refine regT 22 25 (v := ?_) rfl rfl (by kernel_rfl) (by kernel_rfl) (by kernel_rfl) (fun _ _ _ h => h) (by rfl) ?_ (by assumption) ?_
    rotate_left
    focus (intro w hSw; (try dsimp only at hSw); go_simp; (try with_reducible rfl))
    try simp only [Act.put, List.setIfInBounds_toArray, List.set_cons_zero, List.set_cons_succ]
    refine wpAnyH_ready (rs := [23]) (by kernel_rfl) (by simp) ?_
    refine AllReadyH.cons rfl (fun K hK => ?_) ?_
    rotate_left
    focus exact AllReadyH.nil
    have hLbx := hHeld.lb
    obtain ⟨hcx, hfx⟩ := Lb.rules hLbx
    go_simp
    refine hK.out _ _ ?_ (fun hHx => ?_)
    focus ((first | with_reducible assumption | with_reducible exact HeldB.start hLb | with_reducible exact HeldB.of (by assumption) (by assumption) | ((repeat (first | with_reducible refine HeldB.set ?_ (by first | exact Or.inl rfl | exact Or.inr (by simp only [zA, zC, zD, zN]; omega) | exact Or.inr (by omega)) | with_reducible refine HeldB.alloc ?_ _ | with_reducible refine HeldB.drew ?_)); (first | with_reducible assumption | with_reducible exact HeldB.refl hLb | with_reducible exact HeldB.of (by assumption) (by assumption) | with_reducible exact HeldB.ex (by assumption) (by assumption)))))
    have hb := hHeld.ch
    clear hK K hHeld hcx hfx hLbx
    (have hst := xc hb; (try simp only [zA, zC, zD, zN] at hst); obtain ⟨hc, hf, hz⟩ := hst)
    have hLb3 := HeldB.lb hHx
    repeat (replace hLb3 := Lb.unset hLb3)
    obtain ⟨hcb, hfb⟩ := Lb.rules hLb3
    clear hHx
    refine wpAnyH_done (by kernel_rfl) ?_ _
    go_wp2
    refine bodyPost_ret (v := .agg #[.slice A0 aLn c0, .slice A1 aPn c1, .slice A2 aDn c2, .int .i64 m.clock, .slice A3 aNn c3, .slice A4 aSn c4]) (by simp [results, Try.results102, go_sem, *]) rfl ?_
    refine ⟨_, _, _, _, _, _, _, _, _, _, _, _, _, _, _, τ, rfl, OwM.of5 (t0.keepF (by (exact kf_))) (t1.keepF (by (exact kf_))) (t2.keepF (by (exact kf_))) (t3.keepF (by (exact kf_))) (t4.keepF (by (exact kf_))) (by omega), ext_⟩
  case refine_2 =>
    rintro n l a wx ⟨hk, hHeld, hup, l0, l1, l2, l3, l4, r0, r1, r2, r3, r4, v0, v1, v2, v3, v4, u0, u1, u2, u3, u4, τ, hn0, rfl, rfl, C0, C1, C2, C3, C4⟩ he
    obtain rfl : l0 = true := by (cases l0 with | true => rfl | false => exact absurd he (ready_ne (i := 0) (by kernel_rfl)))
    obtain rfl : r0 = true := by (cases r0 with | true => rfl | false => exact absurd he (ready_ne (i := 3) (by kernel_rfl)))
    obtain rfl : l1 = true := by (cases l1 with | true => rfl | false => exact absurd he (ready_ne (i := 4) (by kernel_rfl)))
    obtain rfl : r1 = true := by (cases r1 with | true => rfl | false => exact absurd he (ready_ne (i := 7) (by kernel_rfl)))
    obtain rfl : l2 = true := by (cases l2 with | true => rfl | false => exact absurd he (ready_ne (i := 8) (by kernel_rfl)))
    obtain rfl : r2 = true := by (cases r2 with | true => rfl | false => exact absurd he (ready_ne (i := 11) (by kernel_rfl)))
    obtain rfl : l3 = true := by (cases l3 with | true => rfl | false => exact absurd he (ready_ne (i := 14) (by kernel_rfl)))
    obtain rfl : r3 = true := by (cases r3 with | true => rfl | false => exact absurd he (ready_ne (i := 17) (by kernel_rfl)))
    obtain rfl : l4 = true := by (cases l4 with | true => rfl | false => exact absurd he (ready_ne (i := 18) (by kernel_rfl)))
    obtain rfl : r4 = true := by (cases r4 with | true => rfl | false => exact absurd he (ready_ne (i := 21) (by kernel_rfl)))
    simp [cb] at hn0
  case refine_3 =>
    rintro n l a wx ⟨hk, hHeld, hup, l0, l1, l2, l3, l4, r0, r1, r2, r3, r4, v0, v1, v2, v3, v4, u0, u1, u2, u3, u4, τ, hn0, rfl, rfl, C0, C1, C2, C3, C4⟩ i hi
    obtain ⟨hi0, oi, ho, hdep⟩ := mem_ready.1 hi
    clear hi
    have hi24 : i < 24 := (Array.getElem?_eq_some_iff.1 ho).1
    rcases (show i = 0 ∨ i = 1 ∨ i = 2 ∨ i = 3 ∨ i = 4 ∨ i = 5 ∨ i = 6 ∨ i = 7 ∨ i = 8 ∨ i = 9 ∨ i = 10 ∨ i = 11 ∨ i = 12 ∨ i = 13 ∨ i = 14 ∨ i = 15 ∨ i = 16 ∨ i = 17 ∨ i = 18 ∨ i = 19 ∨ i = 20 ∨ i = 21 ∨ i = 22 ∨ i = 23 by omega) with rfl | rfl | rfl | rfl | rfl | rfl | rfl | rfl | rfl | rfl | rfl | rfl | rfl | rfl | rfl | rfl | rfl | rfl | rfl | rfl | rfl | rfl | rfl | rfl
    · -- 0
      obtain rfl : l0 = false := hi0
      cases C0
      clear ho hdep
      refine wpOp_step rfl fun K hK => ?_
      go_simp
      refine hK _ _ ⟨hHeld.alloc _, hk.alloc, hHeld.alloc _, (by simp; omega), true, l1, l2, l3, l4, false, r1, r2, r3, r4, .slice (some ⟨wx.heap.size, 0, none⟩) 0 0, v1, v2, v3, v4, u0, u1, u2, u3, u4, glue τ wx.heap.size (fun _ => 1), ?_, rfl, rfl, .made _ _ _ (OwT.begun (Ow.new [] rfl rfl rfl (fun _ => rfl) (by omega) (by omega))), C1.alloc, C2.alloc, C3.alloc, C4.alloc⟩
      simp only [cb] at hn0 ⊢; simp at hn0 ⊢; omega
    · -- 1
      exact Bool.noConfusion (show true = false from hi0)
    · -- 2
      exact Bool.noConfusion (show true = false from hi0)
    · -- 3
      obtain rfl : r0 = false := hi0
      obtain rfl := Option.some.inj (show some _ = some oi from ho)
      have d := hdep ⟨0, .data⟩ (by simp) rfl
      obtain rfl : l0 = true := d
      clear ho hdep
      obtain ⟨A, c, rfl, ht⟩ : ∃ A c, v0 = .slice A 0 c ∧ OwT Sw.Ent.enc 4 134 τ 1 wx W0.heap.size A c 0 [] := by (cases C0; exact ⟨_, _, rfl, by assumption⟩)
      clear C0
      refine wpOp_step rfl fun K hK => ?_
      apply step_app el_E one_E rfl rfl rfl rfl ht.ow (Rs.at0 m1 hk) (by omega) hup
      intro A1 c1 w2 ho1 hch1 hat1 hex1 hlow1
      rw [List.nil_append] at ho1; simp only [Nat.zero_add] at ho1
      have hbx := hex1 (· = (w.heap.size + 1)) W0 hHeld.ch (Nat.le_refl _)
      have hlbx := Lb.low hlow1 hlt0 hHeld.lb
      simp only [Nat.zero_add]
      have hKF : KF 0 w w2 := kL ⟨hch1.size, hlow1⟩ hk (by omega)
      refine hK _ _ ⟨HeldB.of hbx hlbx, hKF, HeldB.of hbx hlbx, Nat.le_trans hup hch1.size, true, l1, l2, l3, l4, true, r1, r2, r3, r4, .slice A 0 c, v1, v2, v3, v4, .slice A1 aLn c1, u1, u2, u3, u4, glue τ wx.heap.size (fun _ => 1), ?_, rfl, rfl, .done _ _ _ (OwT.full ho1 ht hat1), C1.app hch1 ht.tag (by decide), C2.app hch1 ht.tag (by decide), C3.app hch1 ht.tag (by decide), C4.app hch1 ht.tag (by decide)⟩
      simp only [cb] at hn0 ⊢; simp at hn0 ⊢; omega
    · -- 4
      obtain rfl : l1 = false := hi0
      cases C1
      clear ho hdep
      refine wpOp_step rfl fun K hK => ?_
      go_simp
      refine hK _ _ ⟨hHeld.alloc _, hk.alloc, hHeld.alloc _, (by simp; omega), l0, true, l2, l3, l4, r0, false, r2, r3, r4, v0, .slice (some ⟨wx.heap.size, 0, none⟩) 0 0, v2, v3, v4, u0, u1, u2, u3, u4, glue τ wx.heap.size (fun _ => 2), ?_, rfl, rfl, C0.alloc, .made _ _ _ (OwT.begun (Ow.new [] rfl rfl rfl (fun _ => rfl) (by omega) (by omega))), C2.alloc, C3.alloc, C4.alloc⟩
      simp only [cb] at hn0 ⊢; simp at hn0 ⊢; omega
    · -- 5
      exact Bool.noConfusion (show true = false from hi0)
    · -- 6
      exact Bool.noConfusion (show true = false from hi0)
    · -- 7
      obtain rfl : r1 = false := hi0
      obtain rfl := Option.some.inj (show some _ = some oi from ho)
      have d := hdep ⟨4, .data⟩ (by simp) rfl
      obtain rfl : l1 = true := d
      clear ho hdep
      obtain ⟨A, c, rfl, ht⟩ : ∃ A c, v1 = .slice A 0 c ∧ OwT encI 1 3 τ 2 wx W0.heap.size A c 0 [] := by (cases C1; exact ⟨_, _, rfl, by assumption⟩)
      clear C1
      refine wpOp_step rfl fun K hK => ?_
      apply step_app el_I one_I rfl rfl rfl rfl ht.ow (Rs.at0 m2 hk) (by omega) hup
      intro A1 c1 w2 ho1 hch1 hat1 hex1 hlow1
      rw [List.nil_append] at ho1; simp only [Nat.zero_add] at ho1
      have hbx := hex1 (· = (w.heap.size + 1)) W0 hHeld.ch (Nat.le_refl _)
      have hlbx := Lb.low hlow1 hlt0 hHeld.lb
      simp only [Nat.zero_add]
      have hKF : KF 0 w w2 := kL ⟨hch1.size, hlow1⟩ hk (by omega)
      refine hK _ _ ⟨HeldB.of hbx hlbx, hKF, HeldB.of hbx hlbx, Nat.le_trans hup hch1.size, l0, true, l2, l3, l4, r0, true, r2, r3, r4, v0, .slice A 0 c, v2, v3, v4, u0, .slice A1 aPn c1, u2, u3, u4, glue τ wx.heap.size (fun _ => 2), ?_, rfl, rfl, C0.app hch1 ht.tag (by decide), .done _ _ _ (OwT.full ho1 ht hat1), C2.app hch1 ht.tag (by decide), C3.app hch1 ht.tag (by decide), C4.app hch1 ht.tag (by decide)⟩
      simp only [cb] at hn0 ⊢; simp at hn0 ⊢; omega
    · -- 8
      obtain rfl : l2 = false := hi0
      cases C2
      clear ho hdep
      refine wpOp_step rfl fun K hK => ?_
      go_simp
      refine hK _ _ ⟨hHeld.alloc _, hk.alloc, hHeld.alloc _, (by simp; omega), l0, l1, true, l3, l4, r0, r1, false, r3, r4, v0, v1, .slice (some ⟨wx.heap.size, 0, none⟩) 0 0, v3, v4, u0, u1, u2, u3, u4, glue τ wx.heap.size (fun _ => 3), ?_, rfl, rfl, C0.alloc, C1.alloc, .made _ _ _ (OwT.begun (Ow.new [] rfl rfl rfl (fun _ => rfl) (by omega) (by omega))), C3.alloc, C4.alloc⟩
      simp only [cb] at hn0 ⊢; simp at hn0 ⊢; omega
    · -- 9
      exact Bool.noConfusion (show true = false from hi0)
    · -- 10
      exact Bool.noConfusion (show true = false from hi0)
    · -- 11
      obtain rfl : r2 = false := hi0
      obtain rfl := Option.some.inj (show some _ = some oi from ho)
      have d := hdep ⟨8, .data⟩ (by simp) rfl
      obtain rfl : l2 = true := d
      clear ho hdep
      obtain ⟨A, c, rfl, ht⟩ : ∃ A c, v2 = .slice A 0 c ∧ OwT Sw.Deal.enc 5 73 τ 3 wx W0.heap.size A c 0 [] := by (cases C2; exact ⟨_, _, rfl, by assumption⟩)
      clear C2
      refine wpOp_step rfl fun K hK => ?_
      apply step_app el_D one_D rfl rfl rfl rfl ht.ow (Rs.at0 m3 hk) (by omega) hup
      intro A1 c1 w2 ho1 hch1 hat1 hex1 hlow1
      rw [List.nil_append] at ho1; simp only [Nat.zero_add] at ho1
      have hbx := hex1 (· = (w.heap.size + 1)) W0 hHeld.ch (Nat.le_refl _)
      have hlbx := Lb.low hlow1 hlt0 hHeld.lb
      simp only [Nat.zero_add]
      have hKF : KF 0 w w2 := kL ⟨hch1.size, hlow1⟩ hk (by omega)
      refine hK _ _ ⟨HeldB.of hbx hlbx, hKF, HeldB.of hbx hlbx, Nat.le_trans hup hch1.size, l0, l1, true, l3, l4, r0, r1, true, r3, r4, v0, v1, .slice A 0 c, v3, v4, u0, u1, .slice A1 aDn c1, u3, u4, glue τ wx.heap.size (fun _ => 3), ?_, rfl, rfl, C0.app hch1 ht.tag (by decide), C1.app hch1 ht.tag (by decide), .done _ _ _ (OwT.full ho1 ht hat1), C3.app hch1 ht.tag (by decide), C4.app hch1 ht.tag (by decide)⟩
      simp only [cb] at hn0 ⊢; simp at hn0 ⊢; omega
    · -- 12
      exact Bool.noConfusion (show true = false from hi0)
    · -- 13
      exact Bool.noConfusion (show true = false from hi0)
    · -- 14
      obtain rfl : l3 = false := hi0
      cases C3
      clear ho hdep
      refine wpOp_step rfl fun K hK => ?_
      go_simp
      refine hK _ _ ⟨hHeld.alloc _, hk.alloc, hHeld.alloc _, (by simp; omega), l0, l1, l2, true, l4, r0, r1, r2, false, r4, v0, v1, v2, .slice (some ⟨wx.heap.size, 0, none⟩) 0 0, v4, u0, u1, u2, u3, u4, glue τ wx.heap.size (fun _ => 4), ?_, rfl, rfl, C0.alloc, C1.alloc, C2.alloc, .made _ _ _ (OwT.begun (Ow.new [] rfl rfl rfl (fun _ => rfl) (by omega) (by omega))), C4.alloc⟩
      simp only [cb] at hn0 ⊢; simp at hn0 ⊢; omega
    · -- 15
      exact Bool.noConfusion (show true = false from hi0)
    · -- 16
      exact Bool.noConfusion (show true = false from hi0)
    · -- 17
      obtain rfl : r3 = false := hi0
      obtain rfl := Option.some.inj (show some _ = some oi from ho)
      have d := hdep ⟨14, .data⟩ (by simp) rfl
      obtain rfl : l3 = true := d
      clear ho hdep
      obtain ⟨A, c, rfl, ht⟩ : ∃ A c, v3 = .slice A 0 c ∧ OwT encI 1 3 τ 4 wx W0.heap.size A c 0 [] := by (cases C3; exact ⟨_, _, rfl, by assumption⟩)
      clear C3
      refine wpOp_step rfl fun K hK => ?_
      apply step_app el_I one_I rfl rfl rfl rfl ht.ow (Rs.at0 m4 hk) (by omega) hup
      intro A1 c1 w2 ho1 hch1 hat1 hex1 hlow1
      rw [List.nil_append] at ho1; simp only [Nat.zero_add] at ho1
      have hbx := hex1 (· = (w.heap.size + 1)) W0 hHeld.ch (Nat.le_refl _)
      have hlbx := Lb.low hlow1 hlt0 hHeld.lb
      simp only [Nat.zero_add]
      have hKF : KF 0 w w2 := kL ⟨hch1.size, hlow1⟩ hk (by omega)
      refine hK _ _ ⟨HeldB.of hbx hlbx, hKF, HeldB.of hbx hlbx, Nat.le_trans hup hch1.size, l0, l1, l2, true, l4, r0, r1, r2, true, r4, v0, v1, v2, .slice A 0 c, v4, u0, u1, u2, .slice A1 aNn c1, u4, glue τ wx.heap.size (fun _ => 4), ?_, rfl, rfl, C0.app hch1 ht.tag (by decide), C1.app hch1 ht.tag (by decide), C2.app hch1 ht.tag (by decide), .done _ _ _ (OwT.full ho1 ht hat1), C4.app hch1 ht.tag (by decide)⟩
      simp only [cb] at hn0 ⊢; simp at hn0 ⊢; omega
    · -- 18
      obtain rfl : l4 = false := hi0
      cases C4
      clear ho hdep
      refine wpOp_step rfl fun K hK => ?_
      go_simp
      refine hK _ _ ⟨hHeld.alloc _, hk.alloc, hHeld.alloc _, (by simp; omega), l0, l1, l2, l3, true, r0, r1, r2, r3, false, v0, v1, v2, v3, .slice (some ⟨wx.heap.size, 0, none⟩) 0 0, u0, u1, u2, u3, u4, glue τ wx.heap.size (fun _ => 5), ?_, rfl, rfl, C0.alloc, C1.alloc, C2.alloc, C3.alloc, .made _ _ _ (OwT.begun (Ow.new [] rfl rfl rfl (fun _ => rfl) (by omega) (by omega)))⟩
      simp only [cb] at hn0 ⊢; simp at hn0 ⊢; omega
    · -- 19
      exact Bool.noConfusion (show true = false from hi0)
    · -- 20
      exact Bool.noConfusion (show true = false from hi0)
    · -- 21
      obtain rfl : r4 = false := hi0
      obtain rfl := Option.some.inj (show some _ = some oi from ho)
      have d := hdep ⟨18, .data⟩ (by simp) rfl
      obtain rfl : l4 = true := d
      clear ho hdep
      obtain ⟨A, c, rfl, ht⟩ : ∃ A c, v4 = .slice A 0 c ∧ OwT encI 1 3 τ 5 wx W0.heap.size A c 0 [] := by (cases C4; exact ⟨_, _, rfl, by assumption⟩)
      clear C4
      refine wpOp_step rfl fun K hK => ?_
      apply step_app el_I one_I rfl rfl rfl rfl ht.ow (Rs.at0 m5 hk) (by omega) hup
      intro A1 c1 w2 ho1 hch1 hat1 hex1 hlow1
      rw [List.nil_append] at ho1; simp only [Nat.zero_add] at ho1
      have hbx := hex1 (· = (w.heap.size + 1)) W0 hHeld.ch (Nat.le_refl _)
      have hlbx := Lb.low hlow1 hlt0 hHeld.lb
      simp only [Nat.zero_add]
      have hKF : KF 0 w w2 := kL ⟨hch1.size, hlow1⟩ hk (by omega)
      refine hK _ _ ⟨HeldB.of hbx hlbx, hKF, HeldB.of hbx hlbx, Nat.le_trans hup hch1.size, l0, l1, l2, l3, true, r0, r1, r2, r3, true, v0, v1, v2, v3, .slice A 0 c, u0, u1, u2, u3, .slice A1 aSn c1, glue τ wx.heap.size (fun _ => 5), ?_, rfl, rfl, C0.app hch1 ht.tag (by decide), C1.app hch1 ht.tag (by decide), C2.app hch1 ht.tag (by decide), C3.app hch1 ht.tag (by decide), .done _ _ _ (OwT.full ho1 ht hat1)⟩
      simp only [cb] at hn0 ⊢; simp at hn0 ⊢; omega
    · -- 22
      obtain rfl := Option.some.inj (show some _ = some oi from ho)
      obtain rfl : r0 = true := hdep ⟨3, .data⟩ (by simp) rfl
      obtain rfl : l0 = true := by (cases C0; rfl)
      obtain rfl : r1 = true := hdep ⟨7, .data⟩ (by simp) rfl
      obtain rfl : l1 = true := by (cases C1; rfl)
      obtain rfl : r2 = true := hdep ⟨11, .data⟩ (by simp) rfl
      obtain rfl : l2 = true := by (cases C2; rfl)
      obtain rfl : r3 = true := hdep ⟨17, .data⟩ (by simp) rfl
      obtain rfl : l3 = true := by (cases C3; rfl)
      obtain rfl : r4 = true := hdep ⟨21, .data⟩ (by simp) rfl
      obtain rfl : l4 = true := by (cases C4; rfl)
      simp [cb] at hn0
    · -- 23
      obtain rfl := Option.some.inj (show some _ = some oi from ho)
      exact Bool.noConfusion (show false = true from hdep ⟨22, .data⟩ (by simp) rfl)
end Go.Proofs.Ytgceeggfdomdjaa

namespace Go.Proofs.Ytgceeggfdomdjaa
set_option maxRecDepth 100000
set_option linter.unusedSimpArgs false
set_option linter.unusedVariables false
open Go.RowKit Go
set_option maxHeartbeats 1000000

/-- 'make([]T, n)' inside a region that draws its order. -/
theorem step_mk {P : Program} {w : World} {ops : Array Oper} {o : Oper} {a : Act} {Kx : Act → World → Prop} {Q : Exit → Act → World → Prop} {E : Prop} {α : Type} {enc : α → List Value} {sz bytes : Nat} {t e : TypeId} {l c : Operand} {lo n : Nat}
    (hel : ElemOk P t e sz bytes) (zx : α) (hzx : ∀ i z, P.info? e = some i → i.zero = some z → z.cells = (enc zx).toArray) (hsz : (enc zx).length = sz) (hgd : o.guard = none)
    (ho : o.op = .makeSlice t l c) (hl : a.eval l = .int .i64 n) (hc : a.eval c = .int .i64 n) (hb : bytes * n ≤ 281474976710656) (hn : n ≤ maxLen) (hlo : lo ≤ w.heap.size)
    (K : ∀ w', Ow enc sz e w' lo (some ⟨w.heap.size, 0, none⟩) n n (List.replicate n zx) → Ex w w' → w.heap.size + 1 ≤ w'.heap.size → Kx (a.put o.dst (.slice (some ⟨w.heap.size, 0, none⟩) n n)) w') :
    if Region.wanted o (yielded ops a.tmps) = true then o.wp P a w Kx Q else E := by
  rw [if_pos (by simp [Region.wanted, hgd])]
  obtain ⟨i, z, hi, hz, hsz', hby, hzs⟩ := hel.info
  obtain ⟨w', hrun, h1, h2⟩ := run_make_full (P := P) w lo t e i z sz hel.sl hi hz hsz' .i64 .i64 n (by rw [hby]; exact hb) hn hlo
  unfold Oper.wp
  simp [execOp, ho, hl, hc, hrun, Result.andThen]
  rw [hzx i z hi hz, madeCells_flat zx hsz hel.pos] at h1
  refine K w' ⟨(List.length_replicate ..).symm, h1⟩ ⟨h2.os, h2.tape, h2.output, h2.size, fun k hk _ => h2.block k hk (by simp)⟩ ?_
  rcases h1.2 with ⟨hv, h0⟩ | ⟨g, cap, cur, hv, hb, hh, _⟩
  · cases hv
  · injection hv with e1 e2 e3
    have e4 : w.heap.size = g := by injection e1 with e1; injection e1
    subst e4
    exact (Array.getElem?_eq_some_iff.1 hh).1
/-- How far one piece has come that is made at once. -/
inductive MakeSt {α : Type} (enc : α → List Value) (sz : Nat) (e : TypeId) (τ : Nat → Nat) (t : Nat) (w : World) (lo n : Nat) (xs : List α) : Bool → Value → Prop
  | none (v : Value) : MakeSt enc sz e τ t w lo n xs false v
  | done (A : Option Addr) (c : Nat) (h : OwT enc sz e τ t w lo A c n xs) : MakeSt enc sz e τ t w lo n xs true (.slice A n c)
section
variable {α : Type} {enc : α → List Value} {sz : Nat} {e : TypeId} {τ τ' : Nat → Nat} {t s : Nat} {w w' : World} {lo n c : Nat} {xs : List α} {l r : Bool} {v u : Value} {A A' : Option Addr}
theorem MakeSt.mv (h : MakeSt enc sz e τ t w lo n xs r u) (f : ∀ A c k ys, OwT enc sz e τ t w lo A c k ys → OwT enc sz e τ' t w' lo A c k ys) : MakeSt enc sz e τ' t w' lo n xs r u := by
  cases h with
  | none => exact .none _
  | done A c h => exact .done _ _ (f _ _ _ _ h)
theorem MakeSt.alloc {o : Obj} (h : MakeSt enc sz e τ t w lo n xs r u) : MakeSt enc sz e (glue τ w.heap.size (fun _ => s)) t (w.alloc o) lo n xs r u :=
  h.mv fun _ _ _ _ h => (h.glueL (Nat.le_refl _)).keep (KT.refl _ _ _ _).alloc
theorem MakeSt.app (h : MakeSt enc sz e τ t w lo n xs r u) (hb : Ch (atA A) w w') (ht : ∀ a, A = some a → τ a.block = s) (hne : t ≠ s) : MakeSt enc sz e (glue τ w.heap.size (fun _ => s)) t w' lo n xs r u :=
  h.mv fun _ _ _ _ h => (h.glueL (Nat.le_refl _)).keep (KT.ch hb (KT.refl _ _ _ _) fun i ⟨a, ha, hi⟩ => .inr (by rw [hi, glue_tag (ht a ha)]; exact Ne.symm hne))
/-- Something new elsewhere. -/
theorem MakeSt.ex (h : MakeSt enc sz e τ t w lo n xs r u) (hb : Ex w w') : MakeSt enc sz e (glue τ w.heap.size (fun _ => s)) t w' lo n xs r u :=
  h.mv fun _ _ _ _ h => (h.glueL (Nat.le_refl _)).keep (KT.ex hb (KT.refl _ _ _ _))
theorem CopySt.ex (h : CopySt enc sz e τ t w lo n xs l r v u) (hb : Ex w w') : CopySt enc sz e (glue τ w.heap.size (fun _ => s)) t w' lo n xs l r v u :=
  h.mv fun _ _ _ _ h => (h.glueL (Nat.le_refl _)).keep (KT.ex hb (KT.refl _ _ _ _))
/-- What is new is marked. -/
theorem OwT.newT {ys : List α} {m lo' : Nat} (h : Ow enc sz e w' lo' A c m ys) (hl : w.heap.size ≤ lo') (hlo : lo ≤ lo') : OwT enc sz e (glue τ w.heap.size (fun _ => t)) t w' lo A c m ys :=
  ⟨h.less hlo, fun a ha => by unfold glue; rw [if_neg (by have := (h.blk ha).1; omega)]⟩
end
end Go.Proofs.Ytgceeggfdomdjaa

namespace Go.Proofs.Ytgceeggfdomdjaa.Sw
set_option maxRecDepth 100000
set_option linter.unusedSimpArgs false
set_option linter.unusedVariables false
open Go.RowKit (wrap64)

/-- How a request was done: the market behind it, but its numbers. -/
inductive DoneBy (m : Mkt) (rows : List Row) (r : Req) : Mkt → Prop
  | issue : r.kind = 1 → r.user = 1 → r.who ≠ 1 → (rowAt rows r.ticket).who = 0 → m.log.length < 40 → moveMay m.purses r.who 1 r.price = true →
      DoneBy m rows r { m with purses := turned (turned m.purses r.who (-r.price)) 1 r.price, log := m.log ++ [⟨1, r.ticket, r.who, r.price⟩] }
  | offer : r.kind = 2 → (rowAt rows r.ticket).who = r.user → dealAt m.deals r.ticket = none → (rowAt rows r.ticket).used = false → r.price ≤ entCap (rowAt rows r.ticket).face →
      DoneBy m rows r { m with deals := insertDeal ⟨r.ticket, r.user, r.price, 0, 0⟩ m.deals }
  | drop (k : Nat) (d : Deal) : r.kind = 3 → (rowAt rows r.ticket).who = r.user → dealAt m.deals r.ticket = some k → m.deals[k]? = some d → d.ticket = r.ticket → held d = false →
      DoneBy m rows r { m with deals := m.deals.eraseIdx k }
  | fund (k : Nat) (d : Deal) : r.kind = 4 → dealAt m.deals r.ticket = some k → m.deals[k]? = some d → d.ticket = r.ticket → held d = false → d.seller ≠ r.user → turnMay m.purses r.user (-d.price) = true →
      DoneBy m rows r { m with purses := turned m.purses r.user (-d.price), deals := m.deals.set k { d with buyer := r.user, due := m.clock + 5 } }
  | settle (k : Nat) (d : Deal) : r.kind = 5 → dealAt m.deals r.ticket = some k → m.deals[k]? = some d → d.ticket = r.ticket → held d = true → d.seller = r.user → m.log.length < 40 → turnMay m.purses d.seller d.price = true →
      DoneBy m rows r { m with purses := turned m.purses d.seller d.price, log := m.log ++ [⟨2, r.ticket, d.buyer, d.price⟩], deals := m.deals.eraseIdx k }
  | enter : r.kind = 6 → (rowAt rows r.ticket).who = r.user → (rowAt rows r.ticket).used = false → dealAt m.deals r.ticket = none → m.log.length < 40 →
      DoneBy m rows r { m with log := m.log ++ [⟨3, r.ticket, r.user, 0⟩] }
theorem settle_may {m : Mkt} {rows : List Row} (h : MOk m rows) {k : Nat} {d : Deal} (hd : m.deals[k]? = some d) (hh : held d = true) : turnMay m.purses d.seller d.price = true := by
  have hdo := dealOk_iff.1 (h.deals.get hd)
  refine turnMay_in h.mon hdo.2.1 (by have := hdo.2.2.2.2.1; omega) ?_
  have h4 := h.sum
  have h5 := heldSum_erase hd
  have h6 := (heldSum_bd (h.deals.sub (List.eraseIdx_sublist m.deals k)).1).1
  have : heldIn d = d.price := by simp [heldIn, hh]
  omega
/-- A request that is not done turns nothing; one that is done does what its kind does. -/
theorem effect_done {m : Mkt} {rows : List Row} {r : Req} (h : MOk m rows) (hr : reqOk r = true) : ((effect m r).2 ≠ 1 ∧ (effect m r).1 = m) ∨ ((effect m r).2 = 1 ∧ DoneBy m rows r (effect m r).1) := by
  have hr := reqOk_iff.1 hr
  have hlog := (ownFold_some.1 h.fold).1
  unfold effect
  rw [mktRows_of h.fold]
  by_cases k1 : r.kind = 1
  · rw [if_pos k1]
    unfold issue
    split
    · exact .inl ⟨by simp, rfl⟩
    split
    · exact .inl ⟨by simp, rfl⟩
    split
    · exact .inl ⟨by simp, rfl⟩
    split
    · rename_i h1 h2 h3 h4
      exact .inr ⟨rfl, .issue k1 (by omega) (by omega) (by omega) (by omega) h4⟩
    · exact .inl ⟨by simp, rfl⟩
  rw [if_neg k1]
  by_cases k2 : r.kind = 2
  · rw [if_pos k2]
    unfold offer
    split
    · exact .inl ⟨by simp, rfl⟩
    split
    · exact .inl ⟨by simp, rfl⟩
    split
    · exact .inl ⟨by simp, rfl⟩
    · rename_i h1 h2 h3
      simp only [not_or, Bool.not_eq_true] at h2
      exact .inr ⟨rfl, .offer k2 (by simpa using h1) (none_of h2.1) h2.2 (by omega)⟩
  rw [if_neg k2]
  by_cases k3 : r.kind = 3
  · rw [if_pos k3]
    unfold dropIt
    split
    · exact .inl ⟨by simp, rfl⟩
    rename_i h1
    split
    · exact .inl ⟨by simp, rfl⟩
    rename_i k hk
    obtain ⟨d, hd, ht⟩ := dealAt_some hk
    rw [getD_of hd]
    split
    · exact .inl ⟨by simp, rfl⟩
    · exact .inr ⟨rfl, .drop k d k3 (by simpa using h1) hk hd ht (by simpa using ‹¬ held d = true›)⟩
  rw [if_neg k3]
  by_cases k4 : r.kind = 4
  · rw [if_pos k4]
    unfold fund
    split
    · exact .inl ⟨by simp, rfl⟩
    rename_i k hk
    obtain ⟨d, hd, ht⟩ := dealAt_some hk
    rw [getD_of hd]
    split
    · exact .inl ⟨by simp, rfl⟩
    split
    · exact .inl ⟨by simp, rfl⟩
    split
    · exact .inr ⟨rfl, .fund k d k4 hk hd ht (by simpa using ‹¬ held d = true›) ‹_› ‹_›⟩
    · exact .inl ⟨by simp, rfl⟩
  rw [if_neg k4]
  by_cases k5 : r.kind = 5
  · rw [if_pos k5]
    unfold settle
    split
    · exact .inl ⟨by simp, rfl⟩
    rename_i k hk
    obtain ⟨d, hd, ht⟩ := dealAt_some hk
    rw [getD_of hd]
    split
    · exact .inl ⟨by simp, rfl⟩
    split
    · exact .inl ⟨by simp, rfl⟩
    split
    · exact .inl ⟨by simp, rfl⟩
    · rename_i h1 h2 h3
      have hh : held d = true := by simpa using h1
      have hm := settle_may h hd hh
      refine .inr ⟨rfl, ?_⟩
      rw [show monTurn m.purses d.seller d.price = turned m.purses d.seller d.price from by simp [monTurn, hm]]
      exact .settle k d k5 hk hd ht hh (by simpa using h2) (by omega) hm
  rw [if_neg k5]
  unfold enter
  split
  · exact .inl ⟨by simp, rfl⟩
  split
  · exact .inl ⟨by simp, rfl⟩
  split
  · exact .inl ⟨by simp, rfl⟩
  · rename_i h1 h2 h3
    simp only [not_or, Bool.not_eq_true] at h2
    exact .inr ⟨rfl, .enter (by omega) (by simpa using h1) h2.1 (none_of h2.2) (by omega)⟩

/-! ### numbers -/
theorem lastOf_set {l : List Int} {u v x : Int} (h5 : l.length = 5) (hu : 1 ≤ u ∧ u ≤ 5) (hv : 1 ≤ v) : lastOf (l.set (u - 1).toNat x) v = if v = u then x else lastOf l v := by
  unfold lastOf
  rw [List.getD_eq_getElem?_getD, List.getElem?_set]
  by_cases h : v = u
  · subst h
    rw [if_pos rfl, if_pos (by omega), if_pos rfl]; rfl
  · rw [if_neg (by omega), if_neg h, List.getD_eq_getElem?_getD]
theorem said_of {m : Mkt} {rows : List Row} (h : MOk m rows) {u : Int} (hu : 1 ≤ u ∧ u ≤ 5) : numOk (lastOf m.nums u) (lastOf m.said u) = true := by
  have hn := h.nlen
  have hs := h.slen
  obtain ⟨a, ha⟩ : ∃ a, m.nums[(u - 1).toNat]? = some a := ⟨_, List.getElem?_eq_getElem (by omega)⟩
  obtain ⟨b, hb⟩ : ∃ b, m.said[(u - 1).toNat]? = some b := ⟨_, List.getElem?_eq_getElem (by omega)⟩
  unfold lastOf
  rw [getD_of ha, getD_of hb]
  exact (numsOk_iff (by rw [hn, hs])).1 h.nums _ _ _ ha hb
theorem doIt_ans {m : Mkt} {rows : List Row} {r : Req} (h : MOk m rows) (hr : reqOk r = true) : 1 ≤ (doIt m r).2 ∧ (doIt m r).2 ≤ 7 := by
  have hr' := reqOk_iff.1 hr
  unfold doIt
  split
  · have := numOk_iff.1 (said_of h hr'.1)
    dsimp only
    omega
  split
  · simp
  · have := effect_ans m r
    dsimp only
    omega
/-- The log grows by one entry at most. -/
theorem doIt_log {m : Mkt} {rows : List Row} {r : Req} (h : MOk m rows) (hr : reqOk r = true) : (doIt m r).1.log = m.log ∨ ∃ e, (doIt m r).1.log = m.log ++ [e] := by
  unfold doIt
  split
  · exact .inl rfl
  split
  · exact .inl rfl
  · show (effect m r).1.log = m.log ∨ ∃ e, (effect m r).1.log = m.log ++ [e]
    rcases effect_done h hr with ⟨_, e⟩ | ⟨_, d⟩
    · exact .inl (by rw [e])
    · generalize (effect m r).1 = x at d
      cases d
      · exact .inr ⟨_, rfl⟩
      · exact .inl rfl
      · exact .inl rfl
      · exact .inl rfl
      · exact .inr ⟨_, rfl⟩
      · exact .inr ⟨_, rfl⟩
theorem doIt_clock {m : Mkt} {rows : List Row} {r : Req} (h : MOk m rows) (hr : reqOk r = true) : (doIt m r).1.clock = m.clock := by
  unfold doIt
  split
  · rfl
  split
  · rfl
  · exact (effect_eff h hr).clk
end Go.Proofs.Ytgceeggfdomdjaa.Sw

namespace Go.Proofs.Ytgceeggfdomdjaa.Sw
set_option maxRecDepth 100000
set_option linter.unusedSimpArgs false
set_option linter.unusedVariables false
open Go.RowKit (wrap64)

theorem foldLines_append : ∀ (a b : List Req) (m : Mkt), foldLines m (a ++ b) = (foldLines m a).bind fun x => foldLines x b
  | [], b, m => rfl
  | r :: a, b, m => by
    rw [List.cons_append, foldLines, foldLines]
    split
    · split
      · rfl
      · exact foldLines_append a b _
    · split
      · exact foldLines_append a b _
      · rfl
theorem reqZ_no : reqOk reqZ = false := rfl
theorem ne_reqZ {r : Req} (h : reqOk r = true) : r ≠ reqZ := by rintro rfl; rw [reqZ_no] at h; cases h
theorem wldFold_snoc {first : List Int} {ls : List Req} {m : Mkt} (h : wldFold first ls = some m) (hl : ls.length < 300) (r : Req) : wldFold first (ls ++ [r]) = foldLines m [r] := by
  unfold wldFold at h ⊢
  split at h
  · rename_i hc
    simp only [Bool.and_eq_true, decide_eq_true_eq] at hc
    rw [if_pos (by simp only [Bool.and_eq_true, decide_eq_true_eq]; exact ⟨hc.1, by simp; omega⟩), foldLines_append, h]
    rfl
  · cases h

/-- A head of the first so many entries. -/
def Of (log : List Ent) (h : Head) : Prop := hedAt log h.size = some h
theorem hedAt_some {log : List Ent} {s : Int} {h : Head} : hedAt log s = some h ↔ (0 ≤ s ∧ s ≤ log.length) ∧ hedOf (log.take s.toNat) = some h := by
  unfold hedAt
  split
  · rename_i hc; rw [inR_iff] at hc; simp [hc]
  · rename_i hc
    have : ¬ (0 ≤ s ∧ s ≤ log.length) := fun h => hc (inR_iff.2 h)
    simp [this]
theorem hedAt_size {log : List Ent} {s : Int} {h : Head} (e : hedAt log s = some h) : h.size = s := by
  rw [hedAt_some] at e
  have := (hedOf_ok e.2).2
  rw [this, List.length_take]
  omega
theorem hedAt_append {log : List Ent} {s : Int} (es : List Ent) (h : 0 ≤ s ∧ s ≤ log.length) : hedAt (log ++ es) s = hedAt log s := by
  unfold hedAt
  rw [if_pos (inR_iff.2 h), if_pos (inR_iff.2 (by rw [List.length_append]; omega)), List.take_append_of_le_length (by omega)]
theorem Of.append {log : List Ent} {h : Head} (e : Of log h) (es : List Ent) : Of (log ++ es) h := by
  unfold Of at *
  rw [hedAt_append es (hedAt_some.1 e).1, e]
theorem Of.whole {log : List Ent} {h : Head} (e : hedOf log = some h) : Of log h := by
  have hs := (hedOf_ok e).2
  unfold Of
  rw [hedAt_some]
  refine ⟨by omega, ?_⟩
  rw [List.take_of_length_le (by omega)]
  exact e
theorem hedOf_of_fold {log : List Ent} {rows : List Row} (h : ownFold log = some rows) : ∃ x, hedOf log = some x := ⟨_, hedOf_some.2 ⟨rows, h, rfl⟩⟩
/-- Two heads of one log never fork. -/
theorem Of.nofork {log : List Ent} {a b : Head} (ha : Of log a) (hb : Of log b) : hedFork a b = false := by
  unfold Of at *
  by_cases h : a.size = b.size
  · rw [h, hb] at ha
    obtain rfl := Option.some.inj ha
    simp [hedFork]
  · simp [hedFork, h]

/-- What holds of a world that events have led to, from purses first on. -/
structure Inv (first : List Int) (w : World) : Prop where
  ok : WOk w
  isFirst : w.first = first
  fold : wldFold first w.lines = some w.market
  money : total w.market = first.sum
  gates : ∀ g ∈ w.gates, Of w.market.log g.head
  bag : ∀ x ∈ w.bag, Of w.market.log x.head
theorem Inv.rows {first : List Int} {w : World} (h : Inv first w) : ∃ rows, MOk w.market rows := mktOk_iff.1 h.ok.mkt
theorem inv_new {p : List Int} (hp : monOk p = true) (hs : monSum p ≤ 100000) : Inv p (wldNew p) := by
  have ok := wldNew_ok hp hs
  have e : wldNew p = ⟨p, mktNew p, [], [gatNew, gatNew], []⟩ := by simp [wldNew, hp, hs]
  have em : mktNew p = ⟨[], p, [], 0, [0, 0, 0, 0, 0], [0, 0, 0, 0, 0]⟩ := by simp [mktNew, hp, hs]
  rw [e] at ok ⊢
  refine ⟨ok, rfl, by simp [wldFold, hp, hs, foldLines], by rw [em]; simp [total, heldSum], fun g hg => ?_, by simp⟩
  have hg : g = gatNew := by simpa using hg
  subst hg
  rw [em]
  obtain ⟨x, hx⟩ := hedOf_of_fold (log := []) (rows := rows0) rfl
  have : gatNew.head = x := by simp [gatNew, hx]
  rw [this]
  exact Of.whole hx
theorem inv_ask {first : List Int} {w : World} (h : Inv first w) (r : Req) : Inv first (ask w r).1 := by
  have hok := ask_ok h.ok r
  unfold ask at hok ⊢
  split at hok
  · rename_i hr
    rw [if_pos hr]
    simp only [Bool.and_eq_true, decide_eq_true_eq] at hr
    obtain ⟨rows, hm⟩ := h.rows
    have hlog : ∃ es, (doIt w.market r).1.log = w.market.log ++ es := by
      rcases doIt_log hm hr.1 with e | ⟨x, e⟩
      · exact ⟨[], by rw [e, List.append_nil]⟩
      · exact ⟨[x], e⟩
    obtain ⟨es, he⟩ := hlog
    refine ⟨hok, h.isFirst, ?_, ?_, fun g hg => ?_, fun x hx => ?_⟩
    · show wldFold first (w.lines ++ [r]) = _
      rw [wldFold_snoc h.fold hr.2, foldLines, if_neg (ne_reqZ hr.1), if_pos hr.1, foldLines]
    · show total (doIt w.market r).1 = _
      rw [doIt_total hm hr.1, h.money]
    · show Of (doIt w.market r).1.log g.head
      rw [he]
      exact (h.gates g hg).append es
    · show Of (doIt w.market r).1.log x.head
      rw [he]
      exact (h.bag x hx).append es
  · rename_i hr
    rw [if_neg hr]
    exact h
theorem inv_tick {first : List Int} {w : World} (h : Inv first w) : Inv first (tickW w) := by
  have hok := tickW_ok h.ok
  unfold tickW at hok ⊢
  split at hok
  · rename_i hr
    rw [if_pos hr]
    simp only [Bool.and_eq_true, decide_eq_true_eq] at hr
    obtain ⟨rows, hm⟩ := h.rows
    refine ⟨hok, h.isFirst, ?_, ?_, h.gates, h.bag⟩
    · show wldFold first (w.lines ++ [reqZ]) = _
      rw [wldFold_snoc h.fold hr.2, foldLines, if_pos rfl, if_neg hr.1, foldLines]
    · show total (tick w.market) = _
      rw [tick_total hm, h.money]
  · rename_i hr
    rw [if_neg hr]
    exact h
theorem fall_market {first : List Int} {w : World} (h : Inv first w) : (fall w).market = w.market := by
  show (wldFold w.first w.lines).getD w.market = _
  rw [h.isFirst, h.fold]
  rfl
theorem inv_fall {first : List Int} {w : World} (h : Inv first w) : Inv first (fall w) := by
  have e := fall_market h
  refine ⟨fall_ok h.ok, h.isFirst, ?_, ?_, fun g hg => ?_, by simp [fall]⟩
  · rw [e]; exact h.fold
  · rw [e]; exact h.money
  · rw [e]; exact h.gates g hg
theorem inv_send {first : List Int} {w : World} (h : Inv first w) (k : Int) : Inv first (send w k) := by
  have hok := send_ok h.ok k
  unfold send at hok ⊢
  split at hok
  · rename_i hr
    rw [if_pos hr]
    refine ⟨hok, h.isFirst, h.fold, h.money, h.gates, fun x hx => ?_⟩
    rcases List.mem_append.1 hx with hx | hx
    · exact h.bag x hx
    · obtain rfl := List.mem_singleton.1 hx
      obtain ⟨rows, hm⟩ := h.rows
      obtain ⟨y, hy⟩ := hedOf_of_fold hm.fold
      show Of _ ((hedOf w.market.log).getD headZ)
      rw [hy]
      exact Of.whole hy
  · rename_i hr
    rw [if_neg hr]
    exact h
theorem inv_lose {first : List Int} {w : World} (h : Inv first w) (i : Int) : Inv first (lose w i) :=
  ⟨lose_ok h.ok i, h.isFirst, h.fold, h.money, h.gates, fun x hx => h.bag x ((List.eraseIdx_sublist w.bag i.toNat).subset hx)⟩
theorem inv_setGate {first : List Int} {w : World} (h : Inv first w) {k : Nat} {g : Gate} (hg : gatOk g = true) (ho : Of w.market.log g.head) : Inv first { w with gates := w.gates.set k g } := by
  refine ⟨setGate_ok h.ok hg, h.isFirst, h.fold, h.money, fun x hx => ?_, h.bag⟩
  rcases List.mem_or_eq_of_mem_set hx with hx | rfl
  · exact h.gates x hx
  · exact ho
theorem gateAt_mem {w : World} (h : WOk w) {k : Int} (hk : 0 ≤ k ∧ k ≤ 1) : gateAt w k ∈ w.gates := by
  unfold gateAt
  have hl := h.glen
  obtain ⟨g, hg⟩ : ∃ g, w.gates[k.toNat]? = some g := ⟨_, List.getElem?_eq_getElem (by omega)⟩
  rw [getD_of hg]
  exact List.mem_of_getElem? hg
theorem msgAt_mem {w : World} {i : Int} (hi : 0 ≤ i ∧ i ≤ (w.bag.length : Int) - 1) : msgAt w i ∈ w.bag := by
  unfold msgAt
  obtain ⟨g, hg⟩ : ∃ g, w.bag[i.toNat]? = some g := ⟨_, List.getElem?_eq_getElem (by omega)⟩
  rw [getD_of hg]
  exact List.mem_of_getElem? hg
theorem gatSync_head (g : Gate) (h : Head) (p : List Int) (hg : gatOk g = true) : (gatSync g h p).1.done = g.done ∧ g.head.size ≤ (gatSync g h p).1.head.size ∧ ((gatSync g h p).1.head = h ∨ (gatSync g h p).1.head = g.head) := by
  unfold gatSync
  rw [if_pos hg]
  split
  · exact ⟨rfl, (hedFollows_ok ‹_›).2.2, .inl rfl⟩
  · exact ⟨rfl, Int.le_refl _, .inr rfl⟩
theorem inv_heard {first : List Int} {w : World} (h : Inv first w) {x : Msg} (hx : msgOk x = true) (ho : Of w.market.log x.head) : Inv first (heard w x) := by
  simp only [msgOk, Bool.and_eq_true, inR_iff] at hx
  have hg := gateAt_ok h.ok hx.1.1
  refine inv_setGate h (gatSync_ok hg) ?_
  rcases (gatSync_head (gateAt w x.gate) x.head x.proof hg).2.2 with e | e
  · rw [e]; exact ho
  · rw [e]; exact h.gates _ (gateAt_mem h.ok hx.1.1)
theorem inv_hear {first : List Int} {w : World} (h : Inv first w) {i : Int} (hi : 0 ≤ i ∧ i ≤ (w.bag.length : Int) - 1) : Inv first (hear w i) :=
  inv_heard (inv_lose h i) (msgAt_ok h.ok hi) (h.bag _ (msgAt_mem hi))
theorem inv_twice {first : List Int} {w : World} (h : Inv first w) {i : Int} (hi : 0 ≤ i ∧ i ≤ (w.bag.length : Int) - 1) : Inv first (twice w i) := by
  have hok := twice_ok h.ok hi
  unfold twice at hok ⊢
  split at hok
  · rename_i hr
    rw [if_pos hr]
    refine ⟨hok, h.isFirst, h.fold, h.money, h.gates, fun x hx => ?_⟩
    rcases List.mem_append.1 hx with hx | hx
    · exact h.bag x hx
    · obtain rfl := List.mem_singleton.1 hx
      exact h.bag _ (msgAt_mem hi)
  · rename_i hr
    rw [if_neg hr]
    exact h
theorem gatShow_head (g : Gate) (t who : Int) (r : Row) (p : List Int) (hg : gatOk g = true) : (gatShow g t who r p).1.head = g.head := by
  unfold gatShow
  rw [if_pos hg]
  split <;> rfl
theorem inv_show {first : List Int} {w : World} (h : Inv first w) (k t who : Int) : Inv first (showIt w k t who).1 := by
  unfold showIt
  split
  · rename_i hr
    simp only [Bool.and_eq_true, decide_eq_true_eq, inR_iff] at hr
    split
    · exact h
    · split
      · have hg := gateAt_ok h.ok hr.1.1
        refine inv_setGate h (gatShow_ok hg) ?_
        rw [gatShow_head _ _ _ _ _ hg]
        exact h.gates _ (gateAt_mem h.ok hr.1.1)
      · exact h
  · exact h
theorem inv_tellOne {first : List Int} {w : World} (h : Inv first w) (t : Int) : Inv first (tellOne w t) := by
  unfold tellOne
  split
  · exact inv_ask h _
  · exact h
theorem inv_tells {first : List Int} : ∀ (ts : List Int) {w : World}, Inv first w → Inv first (ts.foldl tellOne w)
  | [], _, h => h
  | t :: ts, _, h => inv_tells ts (inv_tellOne h t)
theorem inv_tell {first : List Int} {w : World} (h : Inv first w) (k : Int) : Inv first (tell w k) := by
  unfold tell
  split
  · exact inv_tells _ h
  · exact h
theorem inv_step {first : List Int} {w : World} (h : Inv first w) (e : Ev) : Inv first (step w e).1 := by
  unfold step
  split
  · exact inv_ask h _
  split
  · exact inv_tick h
  split
  · exact inv_fall h
  split
  · exact inv_send h _
  split
  · dsimp only; split
    · exact inv_hear h (inR_iff.1 ‹_›)
    · exact h
  split
  · dsimp only; split
    · exact inv_lose h _
    · exact h
  split
  · dsimp only; split
    · exact inv_twice h (inR_iff.1 ‹_›)
    · exact h
  split
  · exact inv_show h _ _ _
  split
  · exact inv_tell h _
  · exact h
theorem inv_run {first : List Int} : ∀ (es : List Ev) {w : World}, Inv first w → Inv first (runFrom w es)
  | [], _, h => h
  | e :: es, _, h => inv_run es (inv_step h e)
theorem Inv.wldMoney {first : List Int} {w : World} (h : Inv first w) : wldMoney w = first.sum := by
  obtain ⟨rows, hm⟩ := h.rows
  unfold Sw.wldMoney
  rw [hm.total]
  have := h.money
  unfold total at this
  rw [this]
  have hs := hm.sum
  have h1 := (sum_bd w.market.purses 100000 (by omega) (monOk_iff.1 hm.mon).2).1
  have h2 := (heldSum_bd hm.deals.1).1
  exact wrap64_in (by omega)
end Go.Proofs.Ytgceeggfdomdjaa.Sw

namespace Go.Proofs.Ytgceeggfdomdjaa.Sw
set_option maxRecDepth 100000
set_option linter.unusedSimpArgs false
set_option linter.unusedVariables false
open Go.RowKit (wrap64)

/-! ### who meets -/
def anyFork (a b : List Head) : Bool := a.any fun x => b.any fun y => hedFork x y
theorem forkIn_some {x : Head} {b : List Head} {p : Head × Head} (h : forkIn x b = some p) : p.1 = x ∧ p.2 ∈ b ∧ hedFork p.1 p.2 = true := by
  unfold forkIn at h
  rw [Option.map_eq_some_iff] at h
  obtain ⟨y, hy, rfl⟩ := h
  exact ⟨rfl, List.mem_of_find?_eq_some hy, List.find?_some hy⟩
theorem forkIn_isSome (x : Head) (b : List Head) : (forkIn x b).isSome = b.any fun y => hedFork x y := by
  unfold forkIn
  rw [Option.isSome_map, List.isSome_find?]
theorem findFork (a b : List Head) : (a.findSome? fun x => forkIn x b).isSome = anyFork a b := by
  unfold anyFork
  induction a with
  | nil => rfl
  | cons x a ih =>
    rw [List.findSome?_cons, List.any_cons, ← ih, ← forkIn_isSome]
    cases forkIn x b <;> simp
theorem watMeet_iff {a b : List Head} (ha : watOk a = true) (hb : watOk b = true) : (watMeet a b).isSome = anyFork a b := by
  unfold watMeet
  rw [if_pos (by simp [ha, hb]), findFork]
theorem watMeet_fork {a b : List Head} {p : Head × Head} (h : watMeet a b = some p) : p.1 ∈ a ∧ p.2 ∈ b ∧ hedFork p.1 p.2 = true := by
  unfold watMeet at h
  split at h
  · obtain ⟨x, hx, e⟩ := List.exists_of_findSome?_eq_some h
    obtain ⟨rfl, h2, h3⟩ := forkIn_some e
    exact ⟨hx, h2, h3⟩
  · cases h
theorem watAll_mem {l : List Head} {log : List Ent} (h : watAll l log = true) {x : Head} (hx : x ∈ l) : Of log x := by
  unfold watAll at h
  simp only [Bool.and_eq_true, List.all_eq_true, decide_eq_true_eq] at h
  exact h.2 x hx
theorem watMeet_all {a c : List Head} {log : List Ent} (ha : watAll a log = true) (hc : watAll c log = true) : watMeet a c = none := by
  cases h : watMeet a c with
  | none => rfl
  | some p =>
    obtain ⟨h1, h2, h3⟩ := watMeet_fork h
    rw [Of.nofork (watAll_mem ha h1) (watAll_mem hc h2)] at h3
    cases h3

/-! ### a world at its beginning -/
def newOk (p : List Int) : Bool := monOk p && decide (monSum p ≤ 100000)
theorem wldNew_y {p : List Int} (h : newOk p = true) : wldNew p = ⟨p, ⟨[], p, [], 0, [0, 0, 0, 0, 0], [0, 0, 0, 0, 0]⟩, [], [gatNew, gatNew], []⟩ := by
  unfold newOk at h
  rw [wldNew, if_pos h, mktNew, if_pos h]
theorem wldNew_n {p : List Int} (h : newOk p = false) : wldNew p = worldZ := by
  unfold newOk at h
  rw [wldNew, if_neg (by rw [h]; simp)]
theorem mktNew_y {p : List Int} (h : newOk p = true) : mktNew p = ⟨[], p, [], 0, [0, 0, 0, 0, 0], [0, 0, 0, 0, 0]⟩ := by
  unfold newOk at h
  rw [mktNew, if_pos h]
theorem mktNew_n {p : List Int} (h : newOk p = false) : mktNew p = mktZ := by
  unfold newOk at h
  rw [mktNew, if_neg (by rw [h]; simp)]
theorem newOk_len {p : List Int} (h : newOk p = true) : p.length = 5 := by
  simp only [newOk, Bool.and_eq_true] at h
  exact (monOk_iff.1 h.1).1
theorem wldOk_worldZ : wldOk worldZ = false := by
  simp [wldOk, worldZ, mktOk, mktZ, monOk]
theorem wldOk_new {p : List Int} (h : newOk p = true) : wldOk (wldNew p) = true := by
  simp only [newOk, Bool.and_eq_true, decide_eq_true_eq] at h
  exact wldOk_iff.2 (wldNew_ok h.1 h.2)
theorem wldMoney_new {p : List Int} (h : newOk p = true) : wldMoney (wldNew p) = monSum p := by
  rw [wldNew_y h]
  simp only [newOk, Bool.and_eq_true, decide_eq_true_eq] at h
  have := monSum_bd h.1
  show wrap64 (monSum p + 0) = monSum p
  rw [Int.add_zero]
  unfold wrap64; omega
theorem gatNew_size : gatNew.head.size = 0 := by
  have : hedOf [] = some ⟨0, root [], ownRoot rows0⟩ := rfl
  rw [gatNew, this]
  rfl
end Go.Proofs.Ytgceeggfdomdjaa.Sw

namespace Go.Proofs.Ytgceeggfdomdjaa
set_option maxRecDepth 100000
set_option linter.unusedSimpArgs false
set_option linter.unusedVariables false
open Go.RowKit Go
set_option maxHeartbeats 1000000

theorem OwM.zero {w : World} {lo : Nat} {τ : Nat → Nat} : OwM τ w lo none 0 0 none 0 0 none 0 0 none 0 0 none 0 0 Sw.mktZ := ⟨OwT.nil .., OwT.nil .., OwT.nil .., OwT.nil .., OwT.nil ..⟩
/-- The pieces' state, where so many operations are still to come. -/
structure NewS (A : Option Addr) (c : Nat) (xs : List Int) (w W0 : World) (n : Nat) (l : Array Bool) (a : Act) (wx : World) : Prop where
  keep : KF 0 w wx
  held : HeldB (w.heap.size) 6 W0 wx
  up : W0.heap.size ≤ wx.heap.size
  st : ∃ (l0 r0 r1 r2 : Bool) (v0 u0 u1 u2 : Value) (τ : Nat → Nat), n = cb l0 + cb r0 + cb r1 + cb r2 ∧ l = #[l0, true, r0, r1, r2, false, false] ∧ a = ⟨#[.slice A 5 c, undef, .pointer (some ⟨w.heap.size, 0, none⟩), .slice A 5 c, .bool true, .bool false, .bool false, .slice A 5 c, .int .i64 (Sw.monSum xs), .bool false, .bool false, undef, v0, .slice A 5 c, u0, u1, u2, undef], []⟩ ∧ CopySt encI 1 3 τ 2 wx W0.heap.size 5 xs l0 r0 v0 u0 ∧ MakeSt encI 1 3 τ 4 wx W0.heap.size 5 (List.replicate 5 (0 : Int)) r1 u1 ∧ MakeSt encI 1 3 τ 5 wx W0.heap.size 5 (List.replicate 5 (0 : Int)) r2 u2
/-- The pieces' state, where so many operations are still to come. -/
structure NewI (A : Option Addr) (c : Nat) (xs : List Int) (w W0 : World) (n : Nat) (l : Array Bool) (a : Act) (wx : World) : Prop where
  keep : KF 0 w wx
  held : HeldB (w.heap.size) 6 W0 wx
  up : W0.heap.size ≤ wx.heap.size
  st : ∃ (r0 r1 r2 : Bool) (u0 u1 u2 : Value) (τ : Nat → Nat), n = cb r0 + cb r1 + cb r2 ∧ l = #[true, r0, r1, r2, false, false] ∧ a = ⟨#[.slice A 5 c, undef, .pointer (some ⟨w.heap.size, 0, none⟩), .slice A 5 c, .bool true, .bool false, .bool false, .slice A 5 c, .int .i64 (Sw.monSum xs), .bool false, .bool false, undef, .slice A 5 c, u0, u1, u2, undef], []⟩ ∧ MakeSt encI 1 3 τ 2 wx W0.heap.size 5 xs r0 u0 ∧ MakeSt encI 1 3 τ 4 wx W0.heap.size 5 (List.replicate 5 (0 : Int)) r1 u1 ∧ MakeSt encI 1 3 τ 5 wx W0.heap.size 5 (List.replicate 5 (0 : Int)) r2 u2
theorem sMktNew_c (A : Option Addr) (c n : Nat) (xs : List Int) (w : World) (hxs : RI w 0 A c n xs) : Calls Try.prog 87 #[.slice A n c] w fun E w' => ∃ bL bLc bLn bP bPc bPn bD bDc bDn bN bNc bNn bS bSc bSn τ, E = .returned (.agg #[.slice bL bLn bLc, .slice bP bPn bPc, .slice bD bDn bDc, .int .i64 (Sw.mktNew xs).clock, .slice bN bNn bNc, .slice bS bSn bSc]) ∧ OwM τ w' w.heap.size bL bLc bLn bP bPc bPn bD bDc bDn bN bNc bNn bS bSc bSn (Sw.mktNew xs) ∧ Ex w w' := by
  cases g1 : Sw.monOk xs
  case false =>
    have e : Sw.mktNew xs = Sw.mktZ := by rw [Sw.mktNew, g1]; rfl
    have He := Lib.hid e; clear e
    go_enter Try.func87, Try.ntmps87
    go_wp2_with (first | (go_at_call 106; apply Calls.mono; apply sMonOk_c; ((first | (apply Rs.at0; assumption) | (apply Ow.rs0; assumption) | (apply OwT.rs0; assumption)); exact kf_); rintro E w' ⟨rfl, rfl⟩))
    refine bodyPost_ret (v := .agg #[.slice none 0 0, .slice none 0 0, .slice none 0 0, .int .i64 0, .slice none 0 0, .slice none 0 0]) (by simp [results, Try.results87, go_sem, *]) rfl ?_
    refine ⟨_, _, _, _, _, _, _, _, _, _, _, _, _, _, _, fun _ => 0, by rw [He.out]; rfl, ?_, ext_⟩
    rw [He.out]
    exact OwM.zero
  have h5 := monOk_len g1
  have hn5 : n = 5 := by rw [hxs.1, h5]
  subst hn5
  clear h5
  by_cases g2 : Sw.monSum xs ≤ 100000
  case neg =>
    have e : Sw.mktNew xs = Sw.mktZ := by simp [Sw.mktNew, g1, g2]
    have He := Lib.hid e; clear e
    have g2' : decide (100000 < Sw.monSum xs) = true := by simp; omega
    go_enter Try.func87, Try.ntmps87
    go_wp2_with (first | (go_at_call 106; apply Calls.mono; apply sMonOk_c; ((first | (apply Rs.at0; assumption) | (apply Ow.rs0; assumption) | (apply OwT.rs0; assumption)); exact kf_); rintro E w' ⟨rfl, rfl⟩) | (go_at_call 108; apply Calls.mono; apply sMonSum_c; ((first | (apply Rs.at0; assumption) | (apply Ow.rs0; assumption) | (apply OwT.rs0; assumption)); exact kf_); rintro E w' ⟨rfl, rfl⟩))
    refine bodyPost_ret (v := .agg #[.slice none 0 0, .slice none 0 0, .slice none 0 0, .int .i64 0, .slice none 0 0, .slice none 0 0]) (by simp [results, Try.results87, go_sem, *]) rfl ?_
    refine ⟨_, _, _, _, _, _, _, _, _, _, _, _, _, _, _, fun _ => 0, by rw [He.out]; rfl, ?_, ext_⟩
    rw [He.out]
    exact OwM.zero
  have e : Sw.mktNew xs = ⟨[], xs, [], 0, [0, 0, 0, 0, 0], [0, 0, 0, 0, 0]⟩ := by simp [Sw.mktNew, g1, g2]
  have He := Lib.hid e; clear e
  have g2' : decide (100000 < Sw.monSum xs) = false := by simp; omega
  go_enter Try.func87, Try.ntmps87
  go_wp2_with (first | (go_at_call 106; apply Calls.mono; apply sMonOk_c; ((first | (apply Rs.at0; assumption) | (apply Ow.rs0; assumption) | (apply OwT.rs0; assumption)); exact kf_); rintro E w' ⟨rfl, rfl⟩) | (go_at_call 108; apply Calls.mono; apply sMonSum_c; ((first | (apply Rs.at0; assumption) | (apply Ow.rs0; assumption) | (apply OwT.rs0; assumption)); exact kf_); rintro E w' ⟨rfl, rfl⟩))
  (refine wp_name ?_; intro W0 hb0; have hst := xr hb0; (try simp only [zA, zC, zD, zN] at hst); obtain ⟨hc0, hf0, hz0⟩ := hst; have hLb : Lb W0 (w.heap.size) 6 := Lb.ex (by exact lbc_) hb0; refine wp_region_held_drew (S := fun w' => HeldB (w.heap.size) 6 W0 w') (by kernel_rfl) ?_ (fun hHeld => ?_); (focus ((try dsimp only); (first | with_reducible assumption | with_reducible exact HeldB.start hLb | with_reducible exact HeldB.of (by assumption) (by assumption) | ((repeat (first | with_reducible refine HeldB.set ?_ (by first | exact Or.inl rfl | exact Or.inr (by simp only [zA, zC, zD, zN]; omega) | exact Or.inr (by omega)) | with_reducible refine HeldB.alloc ?_ _ | with_reducible refine HeldB.drew ?_)); (first | with_reducible assumption | with_reducible exact HeldB.refl hLb | with_reducible exact HeldB.of (by assumption) (by assumption) | with_reducible exact HeldB.ex (by assumption) (by assumption)))))); refine regT 1 13 (v := ?_) rfl rfl (by kernel_rfl) (by kernel_rfl) (by kernel_rfl) (fun _ _ _ h => h) (by rfl) ?_ (by assumption) ?_; rotate_left; (focus (intro w hSw; (try dsimp only at hSw); (try (have hst := xc (HeldB.ch hSw); (try simp only [zA, zC, zD, zN] at hst); obtain ⟨hcS, hfS, hzS⟩ := hst)); go_simp; (try with_reducible rfl))); (try simp only [Act.put, List.setIfInBounds_toArray, List.set_cons_zero, List.set_cons_succ]))
  have hlt0 : w.heap.size < W0.heap.size := hLb.lt
  refine wpAnyH_inv (Inv := NewS A c xs w W0) (k := 2) ?_ ?_ ?_ 4 _ _ _ ?_
  case refine_4 =>
    exact ⟨by (exact kf_), hHeld, Nat.le_refl _, false, false, false, false, undef, undef, undef, undef, fun _ => 0, rfl, by kernel_rfl, rfl, .none _ _, .none _, .none _⟩
  case refine_1 =>
    rintro l a wx ⟨hk, hHeld, hup, l0, r0, r1, r2, v0, u0, u1, u2, τ, hn0, rfl, rfl, C0, C1, C2⟩
    obtain rfl : l0 = true := by cases l0 <;> first | rfl | (exfalso; revert hn0; simp [cb]; done) | (exfalso; revert hn0; simp [cb]; omega)
    obtain rfl : r0 = true := by cases r0 <;> first | rfl | (exfalso; revert hn0; simp [cb]; done) | (exfalso; revert hn0; simp [cb]; omega)
    obtain rfl : r1 = true := by cases r1 <;> first | rfl | (exfalso; revert hn0; simp [cb]; done) | (exfalso; revert hn0; simp [cb]; omega)
    obtain rfl : r2 = true := by cases r2 <;> first | rfl | (exfalso; revert hn0; simp [cb]; done) | (exfalso; revert hn0; simp [cb]; omega)
    obtain ⟨A0, c0, rfl, t0⟩ : ∃ A c, u0 = .slice A 5 c ∧ OwT encI 1 3 τ 2 wx W0.heap.size A c 5 xs := by (cases C0; exact ⟨_, _, rfl, by assumption⟩)
    obtain ⟨A1, c1, rfl, t1⟩ : ∃ A c, u1 = .slice A 5 c ∧ OwT encI 1 3 τ 4 wx W0.heap.size A c 5 (List.replicate 5 (0 : Int)) := by (cases C1; exact ⟨_, _, rfl, by assumption⟩)
    obtain ⟨A2, c2, rfl, t2⟩ : ∃ A c, u2 = .slice A 5 c ∧ OwT encI 1 3 τ 5 wx W0.heap.size A c 5 (List.replicate 5 (0 : Int)) := by (cases C2; exact ⟨_, _, rfl, by assumption⟩)
    clear C0 C1 C2 hn0
    refine regT 5 17 (v := ?_) rfl rfl (by kernel_rfl) (by kernel_rfl) (by kernel_rfl) (fun _ _ _ h => h) (by rfl) ?_ (by assumption) ?_
    rotate_left
    focus (intro w hSw; (try dsimp only at hSw); go_simp; (try with_reducible rfl))
    try simp only [Act.put, List.setIfInBounds_toArray, List.set_cons_zero, List.set_cons_succ]
    refine wpAnyH_ready (rs := [6]) (by kernel_rfl) (by simp) ?_
    refine AllReadyH.cons rfl (fun K hK => ?_) ?_
    rotate_left
    focus exact AllReadyH.nil
    have hLbx := hHeld.lb
    obtain ⟨hcx, hfx⟩ := Lb.rules hLbx
    go_simp
    refine hK.out _ _ ?_ (fun hHx => ?_)
    focus ((first | with_reducible assumption | with_reducible exact HeldB.start hLb | with_reducible exact HeldB.of (by assumption) (by assumption) | ((repeat (first | with_reducible refine HeldB.set ?_ (by first | exact Or.inl rfl | exact Or.inr (by simp only [zA, zC, zD, zN]; omega) | exact Or.inr (by omega)) | with_reducible refine HeldB.alloc ?_ _ | with_reducible refine HeldB.drew ?_)); (first | with_reducible assumption | with_reducible exact HeldB.refl hLb | with_reducible exact HeldB.of (by assumption) (by assumption) | with_reducible exact HeldB.ex (by assumption) (by assumption)))))
    have hb := hHeld.ch
    clear hK K hHeld hcx hfx hLbx
    (have hst := xc hb; (try simp only [zA, zC, zD, zN] at hst); obtain ⟨hc, hf, hz⟩ := hst)
    have hLb3 := HeldB.lb hHx
    repeat (replace hLb3 := Lb.unset hLb3)
    obtain ⟨hcb, hfb⟩ := Lb.rules hLb3
    have hbf := HeldB.ch hHx
    clear hHx
    refine wpAnyH_done (by kernel_rfl) ?_ _
    go_wp2
    refine bodyPost_ret (v := .agg #[.slice none 0 0, .slice A0 5 c0, .slice none 0 0, .int .i64 0, .slice A1 5 c1, .slice A2 5 c2]) (by simp [results, Try.results87, go_sem, *]) rfl ?_
    refine ⟨_, _, _, _, _, _, _, _, _, _, _, _, _, _, _, τ, by rw [He.out], ?_, ext_⟩
    rw [He.out]
    exact ⟨OwT.nil .., (t0.keepF (by (exact kf_))).less (by omega), OwT.nil .., (t1.keepF (by (exact kf_))).less (by omega), (t2.keepF (by (exact kf_))).less (by omega)⟩
  case refine_2 =>
    rintro n l a wx ⟨hk, hHeld, hup, l0, r0, r1, r2, v0, u0, u1, u2, τ, hn0, rfl, rfl, C0, C1, C2⟩ he
    obtain rfl : l0 = true := by (cases l0 with | true => rfl | false => exact absurd he (ready_ne (i := 0) (by kernel_rfl)))
    obtain rfl : r0 = true := by (cases r0 with | true => rfl | false => exact absurd he (ready_ne (i := 2) (by kernel_rfl)))
    obtain rfl : r1 = true := by (cases r1 with | true => rfl | false => exact absurd he (ready_ne (i := 3) (by kernel_rfl)))
    obtain rfl : r2 = true := by (cases r2 with | true => rfl | false => exact absurd he (ready_ne (i := 4) (by kernel_rfl)))
    simp [cb] at hn0
  case refine_3 =>
    rintro n l a wx ⟨hk, hHeld, hup, l0, r0, r1, r2, v0, u0, u1, u2, τ, hn0, rfl, rfl, C0, C1, C2⟩ i hi
    obtain ⟨hi0, oi, ho, hdep⟩ := mem_ready.1 hi
    clear hi
    have hin : i < 7 := (Array.getElem?_eq_some_iff.1 ho).1
    rcases (show i = 0 ∨ i = 1 ∨ i = 2 ∨ i = 3 ∨ i = 4 ∨ i = 5 ∨ i = 6 by omega) with rfl | rfl | rfl | rfl | rfl | rfl | rfl
    · -- 0
      obtain rfl : l0 = false := hi0
      cases C0
      clear ho hdep
      refine wpOp_step rfl fun K hK => ?_
      go_simp
      refine hK _ _ ⟨hHeld.alloc _, hk.alloc, hHeld.alloc _, (by simp; omega), true, false, r1, r2, .slice (some ⟨wx.heap.size, 0, none⟩) 0 0, u0, u1, u2, glue τ wx.heap.size (fun _ => 2), ?_, rfl, rfl, .made _ _ _ (OwT.begun (Ow.new [] rfl rfl rfl (fun _ => rfl) (by omega) (by omega))), C1.alloc, C2.alloc⟩
      simp only [cb] at hn0 ⊢; simp at hn0 ⊢; omega
    · -- 1
      exact Bool.noConfusion (show true = false from hi0)
    · -- 2
      obtain rfl : r0 = false := hi0
      obtain rfl := Option.some.inj (show some _ = some oi from ho)
      have d := hdep ⟨0, .data⟩ (by simp) rfl
      obtain rfl : l0 = true := d
      clear ho hdep
      obtain ⟨Ax, cx, rfl, ht⟩ : ∃ A c, v0 = .slice A 0 c ∧ OwT encI 1 3 τ 2 wx W0.heap.size A c 0 [] := by (cases C0; exact ⟨_, _, rfl, by assumption⟩)
      clear C0
      refine wpOp_step rfl fun K hK => ?_
      apply step_app el_I one_I rfl rfl rfl rfl ht.ow (Rs.at0 hxs hk) (by omega) hup
      intro A1 c1 w2 ho1 hch1 hat1 hex1 hlow1
      rw [List.nil_append] at ho1; simp only [Nat.zero_add] at ho1
      have hbx := hex1 (· = (w.heap.size)) W0 hHeld.ch (Nat.le_refl _)
      have hlbx := Lb.low hlow1 hlt0 hHeld.lb
      simp only [Nat.zero_add]
      have hKF : KF 0 w w2 := kL ⟨hch1.size, hlow1⟩ hk (by omega)
      refine hK _ _ ⟨HeldB.of hbx hlbx, hKF, HeldB.of hbx hlbx, Nat.le_trans hup hch1.size, true, true, r1, r2, .slice Ax 0 cx, .slice A1 5 c1, u1, u2, glue τ wx.heap.size (fun _ => 2), ?_, rfl, rfl, .done _ _ _ (OwT.full ho1 ht hat1), C1.app hch1 ht.tag (by decide), C2.app hch1 ht.tag (by decide)⟩
      simp only [cb] at hn0 ⊢; simp at hn0 ⊢; omega
    · -- 3
      obtain rfl : r1 = false := hi0
      cases C1
      clear ho hdep
      refine wpOp_step rfl fun K hK => ?_
      apply step_mk (lo := wx.heap.size) el_I (0 : Int) z_I rfl rfl rfl rfl rfl (by first | decide | omega) (by first | decide | (unfold maxLen; omega)) (Nat.le_refl _)
      intro w2 ho1 hb1 hz1
      refine hK _ _ ⟨hHeld.ex hb1, kE hb1 hk, hHeld.ex hb1, (by omega), l0, r0, true, r2, v0, u0, .slice (some ⟨wx.heap.size, 0, none⟩) 5 5, u2, glue τ wx.heap.size (fun _ => 4), ?_, rfl, rfl, C0.ex hb1, .done _ _ (OwT.newT ho1 (Nat.le_refl _) hup), C2.ex hb1⟩
      simp only [cb] at hn0 ⊢; simp at hn0 ⊢; omega
    · -- 4
      obtain rfl : r2 = false := hi0
      cases C2
      clear ho hdep
      refine wpOp_step rfl fun K hK => ?_
      apply step_mk (lo := wx.heap.size) el_I (0 : Int) z_I rfl rfl rfl rfl rfl (by first | decide | omega) (by first | decide | (unfold maxLen; omega)) (Nat.le_refl _)
      intro w2 ho1 hb1 hz1
      refine hK _ _ ⟨hHeld.ex hb1, kE hb1 hk, hHeld.ex hb1, (by omega), l0, r0, r1, true, v0, u0, u1, .slice (some ⟨wx.heap.size, 0, none⟩) 5 5, glue τ wx.heap.size (fun _ => 5), ?_, rfl, rfl, C0.ex hb1, C1.ex hb1, .done _ _ (OwT.newT ho1 (Nat.le_refl _) hup)⟩
      simp only [cb] at hn0 ⊢; simp at hn0 ⊢; omega
    · -- 5
      obtain rfl := Option.some.inj (show some _ = some oi from ho)
      obtain rfl : r0 = true := hdep ⟨2, .data⟩ (by simp) rfl
      obtain rfl : l0 = true := by (cases C0; rfl)
      obtain rfl : r1 = true := hdep ⟨3, .data⟩ (by simp) rfl
      obtain rfl : r2 = true := hdep ⟨4, .data⟩ (by simp) rfl
      simp [cb] at hn0
    · -- 6
      obtain rfl := Option.some.inj (show some _ = some oi from ho)
      exact Bool.noConfusion (show false = true from hdep ⟨5, .data⟩ (by simp) rfl)
theorem iMktNew_c (A : Option Addr) (c n : Nat) (xs : List Int) (w : World) (hxs : RI w 0 A c n xs) : Calls Try.prog 38 #[.slice A n c] w fun E w' => ∃ bL bLc bLn bP bPc bPn bD bDc bDn bN bNc bNn bS bSc bSn τ, E = .returned (.agg #[.slice bL bLn bLc, .slice bP bPn bPc, .slice bD bDn bDc, .int .i64 (Sw.mktNew xs).clock, .slice bN bNn bNc, .slice bS bSn bSc]) ∧ OwM τ w' w.heap.size bL bLc bLn bP bPc bPn bD bDc bDn bN bNc bNn bS bSc bSn (Sw.mktNew xs) ∧ Ex w w' := by
  cases g1 : Sw.monOk xs
  case false =>
    have e : Sw.mktNew xs = Sw.mktZ := by rw [Sw.mktNew, g1]; rfl
    have He := Lib.hid e; clear e
    go_enter Try.func38, Try.ntmps38
    go_wp2_with (first | (go_at_call 59; apply Calls.mono; apply iMonOk_c; ((first | (apply Rs.at0; assumption) | (apply Ow.rs0; assumption) | (apply OwT.rs0; assumption)); exact kf_); rintro E w1 ⟨rfl, hb⟩; have hst := xr hb; (try simp only [zA, zC, zD, zN] at hst); obtain ⟨hc, hf, hz⟩ := hst))
    refine bodyPost_ret (v := .agg #[.slice none 0 0, .slice none 0 0, .slice none 0 0, .int .i64 0, .slice none 0 0, .slice none 0 0]) (by simp [results, Try.results38, go_sem, *]) rfl ?_
    refine ⟨_, _, _, _, _, _, _, _, _, _, _, _, _, _, _, fun _ => 0, by rw [He.out]; rfl, ?_, ext_⟩
    rw [He.out]
    exact OwM.zero
  have h5 := monOk_len g1
  have hn5 : n = 5 := by rw [hxs.1, h5]
  subst hn5
  clear h5
  by_cases g2 : Sw.monSum xs ≤ 100000
  case neg =>
    have e : Sw.mktNew xs = Sw.mktZ := by simp [Sw.mktNew, g1, g2]
    have He := Lib.hid e; clear e
    have g2' : decide (100000 < Sw.monSum xs) = true := by simp; omega
    go_enter Try.func38, Try.ntmps38
    go_wp2_with (first | (go_at_call 59; apply Calls.mono; apply iMonOk_c; ((first | (apply Rs.at0; assumption) | (apply Ow.rs0; assumption) | (apply OwT.rs0; assumption)); exact kf_); rintro E w1 ⟨rfl, hb⟩; have hst := xr hb; (try simp only [zA, zC, zD, zN] at hst); obtain ⟨hc, hf, hz⟩ := hst) | (go_at_call 40; apply Calls.mono; apply iMonSum_c; ((first | (apply Rs.at0; assumption) | (apply Ow.rs0; assumption) | (apply OwT.rs0; assumption)); exact kf_); rintro E w' ⟨rfl, rfl⟩))
    refine bodyPost_ret (v := .agg #[.slice none 0 0, .slice none 0 0, .slice none 0 0, .int .i64 0, .slice none 0 0, .slice none 0 0]) (by simp [results, Try.results38, go_sem, *]) rfl ?_
    refine ⟨_, _, _, _, _, _, _, _, _, _, _, _, _, _, _, fun _ => 0, by rw [He.out]; rfl, ?_, ext_⟩
    rw [He.out]
    exact OwM.zero
  have e : Sw.mktNew xs = ⟨[], xs, [], 0, [0, 0, 0, 0, 0], [0, 0, 0, 0, 0]⟩ := by simp [Sw.mktNew, g1, g2]
  have He := Lib.hid e; clear e
  have g2' : decide (100000 < Sw.monSum xs) = false := by simp; omega
  go_enter Try.func38, Try.ntmps38
  go_wp2_with (first | (go_at_call 59; apply Calls.mono; apply iMonOk_c; ((first | (apply Rs.at0; assumption) | (apply Ow.rs0; assumption) | (apply OwT.rs0; assumption)); exact kf_); rintro E w1 ⟨rfl, hb⟩; have hst := xr hb; (try simp only [zA, zC, zD, zN] at hst); obtain ⟨hc, hf, hz⟩ := hst) | (go_at_call 40; apply Calls.mono; apply iMonSum_c; ((first | (apply Rs.at0; assumption) | (apply Ow.rs0; assumption) | (apply OwT.rs0; assumption)); exact kf_); rintro E w' ⟨rfl, rfl⟩))
  (refine wp_name ?_; intro W0 hb0; have hst := xr hb0; (try simp only [zA, zC, zD, zN] at hst); obtain ⟨hc0, hf0, hz0⟩ := hst; have hLb : Lb W0 (w.heap.size) 6 := Lb.ex (by exact lbc_) hb0; refine wp_region_held_drew (S := fun w' => HeldB (w.heap.size) 6 W0 w') (by kernel_rfl) ?_ (fun hHeld => ?_); (focus ((try dsimp only); (first | with_reducible assumption | with_reducible exact HeldB.start hLb | with_reducible exact HeldB.of (by assumption) (by assumption) | ((repeat (first | with_reducible refine HeldB.set ?_ (by first | exact Or.inl rfl | exact Or.inr (by simp only [zA, zC, zD, zN]; omega) | exact Or.inr (by omega)) | with_reducible refine HeldB.alloc ?_ _ | with_reducible refine HeldB.drew ?_)); (first | with_reducible assumption | with_reducible exact HeldB.refl hLb | with_reducible exact HeldB.of (by assumption) (by assumption) | with_reducible exact HeldB.ex (by assumption) (by assumption)))))); refine regT 0 12 (v := ?_) rfl rfl (by kernel_rfl) (by kernel_rfl) (by kernel_rfl) (fun _ _ _ h => h) (by rfl) ?_ (by assumption) ?_; rotate_left; (focus (intro w hSw; (try dsimp only at hSw); (try (have hst := xc (HeldB.ch hSw); (try simp only [zA, zC, zD, zN] at hst); obtain ⟨hcS, hfS, hzS⟩ := hst)); go_simp; (try with_reducible rfl))); (try simp only [Act.put, List.setIfInBounds_toArray, List.set_cons_zero, List.set_cons_succ]))
  have hlt0 : w.heap.size < W0.heap.size := hLb.lt
  refine wpAnyH_inv (Inv := NewI A c xs w W0) (k := 2) ?_ ?_ ?_ 3 _ _ _ ?_
  case refine_4 =>
    exact ⟨by (exact kf_), hHeld, Nat.le_refl _, false, false, false, undef, undef, undef, fun _ => 0, rfl, by kernel_rfl, rfl, .none _, .none _, .none _⟩
  case refine_1 =>
    rintro l a wx ⟨hk, hHeld, hup, r0, r1, r2, u0, u1, u2, τ, hn0, rfl, rfl, C0, C1, C2⟩
    obtain rfl : r0 = true := by cases r0 <;> first | rfl | (exfalso; revert hn0; simp [cb]; done) | (exfalso; revert hn0; simp [cb]; omega)
    obtain rfl : r1 = true := by cases r1 <;> first | rfl | (exfalso; revert hn0; simp [cb]; done) | (exfalso; revert hn0; simp [cb]; omega)
    obtain rfl : r2 = true := by cases r2 <;> first | rfl | (exfalso; revert hn0; simp [cb]; done) | (exfalso; revert hn0; simp [cb]; omega)
    obtain ⟨A0, c0, rfl, t0⟩ : ∃ A c, u0 = .slice A 5 c ∧ OwT encI 1 3 τ 2 wx W0.heap.size A c 5 xs := by (cases C0; exact ⟨_, _, rfl, by assumption⟩)
    obtain ⟨A1, c1, rfl, t1⟩ : ∃ A c, u1 = .slice A 5 c ∧ OwT encI 1 3 τ 4 wx W0.heap.size A c 5 (List.replicate 5 (0 : Int)) := by (cases C1; exact ⟨_, _, rfl, by assumption⟩)
    obtain ⟨A2, c2, rfl, t2⟩ : ∃ A c, u2 = .slice A 5 c ∧ OwT encI 1 3 τ 5 wx W0.heap.size A c 5 (List.replicate 5 (0 : Int)) := by (cases C2; exact ⟨_, _, rfl, by assumption⟩)
    clear C0 C1 C2 hn0
    refine regT 4 16 (v := ?_) rfl rfl (by kernel_rfl) (by kernel_rfl) (by kernel_rfl) (fun _ _ _ h => h) (by rfl) ?_ (by assumption) ?_
    rotate_left
    focus (intro w hSw; (try dsimp only at hSw); go_simp; (try with_reducible rfl))
    try simp only [Act.put, List.setIfInBounds_toArray, List.set_cons_zero, List.set_cons_succ]
    refine wpAnyH_ready (rs := [5]) (by kernel_rfl) (by simp) ?_
    refine AllReadyH.cons rfl (fun K hK => ?_) ?_
    rotate_left
    focus exact AllReadyH.nil
    have hLbx := hHeld.lb
    obtain ⟨hcx, hfx⟩ := Lb.rules hLbx
    go_simp
    refine hK.out _ _ ?_ (fun hHx => ?_)
    focus ((first | with_reducible assumption | with_reducible exact HeldB.start hLb | with_reducible exact HeldB.of (by assumption) (by assumption) | ((repeat (first | with_reducible refine HeldB.set ?_ (by first | exact Or.inl rfl | exact Or.inr (by simp only [zA, zC, zD, zN]; omega) | exact Or.inr (by omega)) | with_reducible refine HeldB.alloc ?_ _ | with_reducible refine HeldB.drew ?_)); (first | with_reducible assumption | with_reducible exact HeldB.refl hLb | with_reducible exact HeldB.of (by assumption) (by assumption) | with_reducible exact HeldB.ex (by assumption) (by assumption)))))
    have hb := hHeld.ch
    clear hK K hHeld hcx hfx hLbx
    (have hst := xc hb; (try simp only [zA, zC, zD, zN] at hst); obtain ⟨hc, hf, hz⟩ := hst)
    have hLb3 := HeldB.lb hHx
    repeat (replace hLb3 := Lb.unset hLb3)
    obtain ⟨hcb, hfb⟩ := Lb.rules hLb3
    have hbf := HeldB.ch hHx
    clear hHx
    refine wpAnyH_done (by kernel_rfl) ?_ _
    go_wp2
    refine bodyPost_ret (v := .agg #[.slice none 0 0, .slice A0 5 c0, .slice none 0 0, .int .i64 0, .slice A1 5 c1, .slice A2 5 c2]) (by simp [results, Try.results38, go_sem, *]) rfl ?_
    refine ⟨_, _, _, _, _, _, _, _, _, _, _, _, _, _, _, τ, by rw [He.out], ?_, ext_⟩
    rw [He.out]
    exact ⟨OwT.nil .., (t0.keepF (by (exact kf_))).less (by omega), OwT.nil .., (t1.keepF (by (exact kf_))).less (by omega), (t2.keepF (by (exact kf_))).less (by omega)⟩
  case refine_2 =>
    rintro n l a wx ⟨hk, hHeld, hup, r0, r1, r2, u0, u1, u2, τ, hn0, rfl, rfl, C0, C1, C2⟩ he
    obtain rfl : r0 = true := by (cases r0 with | true => rfl | false => exact absurd he (ready_ne (i := 1) (by kernel_rfl)))
    obtain rfl : r1 = true := by (cases r1 with | true => rfl | false => exact absurd he (ready_ne (i := 2) (by kernel_rfl)))
    obtain rfl : r2 = true := by (cases r2 with | true => rfl | false => exact absurd he (ready_ne (i := 3) (by kernel_rfl)))
    simp [cb] at hn0
  case refine_3 =>
    rintro n l a wx ⟨hk, hHeld, hup, r0, r1, r2, u0, u1, u2, τ, hn0, rfl, rfl, C0, C1, C2⟩ i hi
    obtain ⟨hi0, oi, ho, hdep⟩ := mem_ready.1 hi
    clear hi
    have hin : i < 6 := (Array.getElem?_eq_some_iff.1 ho).1
    rcases (show i = 0 ∨ i = 1 ∨ i = 2 ∨ i = 3 ∨ i = 4 ∨ i = 5 by omega) with rfl | rfl | rfl | rfl | rfl | rfl
    · -- 0
      exact Bool.noConfusion (show true = false from hi0)
    · -- 1
      obtain rfl : r0 = false := hi0
      cases C0
      clear ho hdep
      refine wpOp_step rfl fun K hK => ?_
      replace hK := Lib.hid hK
      go_simp
      (go_at_call 86; apply Calls.mono; apply iCloneInts_c; (exact Rs.at0 hxs hk); (try omega); rintro E w2 ⟨A1, c1, rfl, ho1, hb1⟩)
      try go_wp2_with fail
      refine hK.out _ _ ⟨hHeld.ex hb1, kE hb1 hk, hHeld.ex hb1, (by have := hb1.size; omega), true, r1, r2, .slice A1 5 c1, u1, u2, glue τ wx.heap.size (fun _ => 2), ?_, rfl, rfl, .done _ _ (OwT.newT ho1 (Nat.le_refl _) hup), C1.ex hb1, C2.ex hb1⟩
      simp only [cb] at hn0 ⊢; simp at hn0 ⊢; omega
    · -- 2
      obtain rfl : r1 = false := hi0
      cases C1
      clear ho hdep
      refine wpOp_step rfl fun K hK => ?_
      apply step_mk (lo := wx.heap.size) el_I (0 : Int) z_I rfl rfl rfl rfl rfl (by first | decide | omega) (by first | decide | (unfold maxLen; omega)) (Nat.le_refl _)
      intro w2 ho1 hb1 hz1
      refine hK _ _ ⟨hHeld.ex hb1, kE hb1 hk, hHeld.ex hb1, (by omega), r0, true, r2, u0, .slice (some ⟨wx.heap.size, 0, none⟩) 5 5, u2, glue τ wx.heap.size (fun _ => 4), ?_, rfl, rfl, C0.ex hb1, .done _ _ (OwT.newT ho1 (Nat.le_refl _) hup), C2.ex hb1⟩
      simp only [cb] at hn0 ⊢; simp at hn0 ⊢; omega
    · -- 3
      obtain rfl : r2 = false := hi0
      cases C2
      clear ho hdep
      refine wpOp_step rfl fun K hK => ?_
      apply step_mk (lo := wx.heap.size) el_I (0 : Int) z_I rfl rfl rfl rfl rfl (by first | decide | omega) (by first | decide | (unfold maxLen; omega)) (Nat.le_refl _)
      intro w2 ho1 hb1 hz1
      refine hK _ _ ⟨hHeld.ex hb1, kE hb1 hk, hHeld.ex hb1, (by omega), r0, r1, true, u0, u1, .slice (some ⟨wx.heap.size, 0, none⟩) 5 5, glue τ wx.heap.size (fun _ => 5), ?_, rfl, rfl, C0.ex hb1, C1.ex hb1, .done _ _ (OwT.newT ho1 (Nat.le_refl _) hup)⟩
      simp only [cb] at hn0 ⊢; simp at hn0 ⊢; omega
    · -- 4
      obtain rfl := Option.some.inj (show some _ = some oi from ho)
      obtain rfl : r0 = true := hdep ⟨1, .data⟩ (by simp) rfl
      obtain rfl : r1 = true := hdep ⟨2, .data⟩ (by simp) rfl
      obtain rfl : r2 = true := hdep ⟨3, .data⟩ (by simp) rfl
      simp [cb] at hn0
    · -- 5
      obtain rfl := Option.some.inj (show some _ = some oi from ho)
      exact Bool.noConfusion (show false = true from hdep ⟨4, .data⟩ (by simp) rfl)
end Go.Proofs.Ytgceeggfdomdjaa

namespace Go.Proofs.Ytgceeggfdomdjaa
set_option maxRecDepth 100000
set_option linter.unusedSimpArgs false
set_option linter.unusedVariables false
open Go.RowKit Go
set_option maxHeartbeats 1000000

/-- How far a block has come that is made at once. -/
inductive AllocSt (τ : Nat → Nat) (t : Nat) (w : World) (lo n : Nat) : Bool → Value → Prop
  | none (v : Value) : AllocSt τ t w lo n false v
  | done (g : Nat) (hg : lo ≤ g) (hl : Lb w g n) (ht : τ g = t) : AllocSt τ t w lo n true (.pointer (some ⟨g, 0, none⟩))
/-- What is built out of a piece's value u. -/
inductive BuildSt (f : Value → Value) (u : Value) : Bool → Bool → Value → Prop
  | none (r : Bool) (v : Value) : BuildSt f u r false v
  | done : BuildSt f u true true (f u)
section
variable {τ : Nat → Nat} {t s : Nat} {w w' : World} {lo n : Nat} {r : Bool} {u : Value} {A : Option Addr}
theorem AllocSt.alloc {o : Obj} (h : AllocSt τ t w lo n r u) : AllocSt (glue τ w.heap.size (fun _ => s)) t (w.alloc o) lo n r u := by
  cases h with
  | none => exact .none _
  | done g hg hl ht => exact .done g hg hl.alloc (by unfold glue; rw [if_pos hl.lt]; exact ht)
theorem AllocSt.ex (h : AllocSt τ t w lo n r u) (hb : Ex w w') : AllocSt (glue τ w.heap.size (fun _ => s)) t w' lo n r u := by
  cases h with
  | none => exact .none _
  | done g hg hl ht => exact .done g hg (hl.ex hb) (by unfold glue; rw [if_pos hl.lt]; exact ht)
theorem AllocSt.app (h : AllocSt τ t w lo n r u) (hb : Ch (atA A) w w') (ht : ∀ a, A = some a → τ a.block = s) (hne : t ≠ s) : AllocSt (glue τ w.heap.size (fun _ => s)) t w' lo n r u := by
  cases h with
  | none => exact .none _
  | done g hg hl hτ =>
    refine .done g hg (Lb.chk hb hl ?_) (by unfold glue; rw [if_pos hl.lt]; exact hτ)
    rintro ⟨a, ha, hi⟩
    exact hne (by rw [← hτ, hi]; exact ht a ha)
theorem BuildSt.chg {f : Value → Value} {u u' : Value} {m : Bool} {v : Value} (h : BuildSt f u false m v) (r : Bool) : BuildSt f u' r m v := by
  cases h with
  | none => exact .none _ _
end
/-- A gate nobody has gone through, as its cells hold it. -/
def gv0 (h : Sw.Head) : GV := ⟨h, none, 0, 0⟩
/-- A world that has just begun: nobody has gone through its gates, nothing is written down, nothing on its way. -/
structure WN (τ : Nat → Nat) (w : World) (lo : Nat) (F : Option Addr) (Fc Fn : Nat) (aL : Option Addr) (aLc aLn : Nat) (aP : Option Addr) (aPc aPn : Nat) (aD : Option Addr) (aDc aDn : Nat) (aN : Option Addr) (aNc aNn : Nat) (aS : Option Addr) (aSc aSn : Nat) (G : Option Addr) (Gc Gn : Nat) (x : Sw.World) : Prop where
  first : OwTI τ 6 w lo F Fc Fn x.first
  mkt : OwM τ w lo aL aLc aLn aP aPc aPn aD aDc aDn aN aNc aNn aS aSc aSn x.market
  gates : OwTG τ 8 w lo G Gc Gn (x.gates.map fun g => gv0 g.head)
  gone : ∀ g ∈ x.gates, g.done = []
  lines : x.lines = []
  bag : x.bag = []
section
variable {τ τ' : Nat → Nat} {w w' : World} {lo lo' Fc Fn Gc Gn k : Nat} {F G : Option Addr}
theorem WN.rw_ {aL : Option Addr} {aLc aLn : Nat} {aP : Option Addr} {aPc aPn : Nat} {aD : Option Addr} {aDc aDn : Nat} {aN : Option Addr} {aNc aNn : Nat} {aS : Option Addr} {aSc aSn : Nat} {x : Sw.World} (h : WN τ w lo F Fc Fn aL aLc aLn aP aPc aPn aD aDc aDn aN aNc aNn aS aSc aSn G Gc Gn x) : RW w lo F Fc Fn aL aLc aLn aP aPc aPn aD aDc aDn aN aNc aNn aS aSc aSn none 0 0 G Gc Gn none 0 0 x := by
  refine ⟨h.first.rs, h.mkt.rm, ?_, ⟨_, h.gates.rs, ?_, ?_⟩, ⟨[], ?_, ?_, ?_⟩⟩
  · rw [h.lines]; exact (Ow.nil (enc := Sw.Req.enc) (sz := 6) (e := 121) _ lo).rs
  · rw [h.gates.ow.1, List.length_map]
  · intro j v g hv hg
    rw [List.getElem?_map, hg] at hv
    obtain rfl : gv0 g.head = v := by simpa using hv
    refine ⟨rfl, ?_⟩
    rw [h.gone g (List.mem_of_getElem? hg)]
    exact (Ow.nil (enc := encI) (sz := 1) (e := 3) _ lo).rs
  · exact (Ow.nil (enc := XV.enc) (sz := 5) (e := 123) _ lo).rs
  · rw [h.bag]; rfl
  · intro j v m hv; simp at hv
theorem WN.keepF {aL : Option Addr} {aLc aLn : Nat} {aP : Option Addr} {aPc aPn : Nat} {aD : Option Addr} {aDc aDn : Nat} {aN : Option Addr} {aNc aNn : Nat} {aS : Option Addr} {aSc aSn : Nat} {x : Sw.World} (h : WN τ w lo F Fc Fn aL aLc aLn aP aPc aPn aD aDc aDn aN aNc aNn aS aSc aSn G Gc Gn x) (hk : KF lo w w') : WN τ w' lo F Fc Fn aL aLc aLn aP aPc aPn aD aDc aDn aN aNc aNn aS aSc aSn G Gc Gn x := ⟨h.1.keepF hk, h.2.keepF hk, h.3.keepF hk, h.4, h.5, h.6⟩
theorem WN.less {aL : Option Addr} {aLc aLn : Nat} {aP : Option Addr} {aPc aPn : Nat} {aD : Option Addr} {aDc aDn : Nat} {aN : Option Addr} {aNc aNn : Nat} {aS : Option Addr} {aSc aSn : Nat} {x : Sw.World} (h : WN τ w lo F Fc Fn aL aLc aLn aP aPc aPn aD aDc aDn aN aNc aNn aS aSc aSn G Gc Gn x) (hl : lo' ≤ lo) : WN τ w lo' F Fc Fn aL aLc aLn aP aPc aPn aD aDc aDn aN aNc aNn aS aSc aSn G Gc Gn x := ⟨h.1.less hl, h.2.less hl, h.3.less hl, h.4, h.5, h.6⟩
end
end Go.Proofs.Ytgceeggfdomdjaa

namespace Go.Proofs.Ytgceeggfdomdjaa
set_option maxRecDepth 100000
set_option linter.unusedSimpArgs false
set_option linter.unusedVariables false
open Go.RowKit Go
set_option maxHeartbeats 400000

theorem sConCheck_c (m old nn r : Int) (A : Option Addr) (c n : Nat) (xs : List Int) (w : World) (hxs : RI w 0 A c n xs) : Calls Try.prog 146 #[.int .i64 m, .int .i64 old, .int .i64 nn, .int .i64 r, .slice A n c] w fun E w' => E = .returned (.bool (Sw.conCheck m old nn r xs)) ∧ Ex w w' := by
  have hl := Lib.hid hxs.1
  by_cases hg : (Sw.inR nn 1 40 && Sw.inR m 1 nn && Sw.mixOk old && Sw.mixOk r && Sw.treOk xs) = true
  · have hg' := hg
    simp only [Bool.and_eq_true] at hg'
    obtain ⟨⟨⟨⟨g1, g2⟩, g3⟩, g4⟩, g5⟩ := hg'
    have b1 : 1 ≤ nn ∧ nn ≤ 40 := by simpa [Sw.inR] using g1
    have b2 : 1 ≤ m ∧ m ≤ nn := by simpa [Sw.inR] using g2
    have h40 : n ≤ 40 := by have := hl.out; simp [Sw.treOk] at g5; omega
    have hall : xs.all Sw.mixOk = true := by simp only [Sw.treOk, Bool.and_eq_true] at g5; exact g5.2
    obtain ⟨k, rfl⟩ := Int.eq_ofNat_of_zero_le (show 0 ≤ nn by omega)
    obtain ⟨j, rfl⟩ := Int.eq_ofNat_of_zero_le (show 0 ≤ m by omega)
    have e : Sw.conCheck j old k r xs = (Sw.grR j k old xs.reverse true == some (old, r)) := by
      rw [Sw.conCheck, hg]; rfl
    have He := Lib.hid e
    clear e hg
    go_enter Try.func146, Try.ntmps146
    go_wp2_with (first | (go_at_call 78; refine (l1In_c _ _ _ _).mono ?_; rintro E w' ⟨rfl, rfl⟩) | (go_at_call 147; refine (sMixOk_c _ _).mono ?_; rintro E w' ⟨rfl, rfl⟩) | (go_at_call 178; apply Calls.mono; apply sTreOk_c; ((first | (apply Rs.at0; assumption) | (apply Ow.rs0; assumption)); exact kf_); rintro E w' ⟨rfl, rfl⟩) | (go_at_call 180; apply Calls.mono; apply (sBoth_c 40); omega; ((first | (apply Rs.at0; assumption) | (apply Ow.rs0; assumption)); exact kf_); omega; exact hall; exact g3; omega; omega; omega; rintro E w1 ⟨a, b, rfl, hr, ha, hb', hb⟩; have Hr := Lib.hid hr; clear hr; cases hs : Sw.grR j k old xs.reverse true))
    all_goals (go_ret; refine ⟨ret_b ?_, ext_⟩; rw [He.out, hs])
    · rfl
    all_goals
      obtain rfl := Hr.out _ hs
      rw [Bool.eq_iff_iff]
      simp [*]
  · have hg' : (Sw.inR nn 1 40 && Sw.inR m 1 nn && Sw.mixOk old && Sw.mixOk r && Sw.treOk xs) = false := by simpa using hg
    have e : Sw.conCheck m old nn r xs = false := by rw [Sw.conCheck, hg']; rfl
    rw [e]
    have Hg := Lib.hid hg'
    clear e hg hg'
    cases g1 : Sw.inR nn 1 40
    case false => go_enter Try.func146, Try.ntmps146; go_wp2_with (first | (go_at_call 78; refine (l1In_c _ _ _ _).mono ?_; rintro E w' ⟨rfl, rfl⟩)); go_ret; exact ⟨rfl, ext_⟩
    cases g2 : Sw.inR m 1 nn
    case false => go_enter Try.func146, Try.ntmps146; go_wp2_with (first | (go_at_call 78; refine (l1In_c _ _ _ _).mono ?_; rintro E w' ⟨rfl, rfl⟩)); go_ret; exact ⟨rfl, ext_⟩
    cases g3 : Sw.mixOk old
    case false => go_enter Try.func146, Try.ntmps146; go_wp2_with (first | (go_at_call 78; refine (l1In_c _ _ _ _).mono ?_; rintro E w' ⟨rfl, rfl⟩) | (go_at_call 147; refine (sMixOk_c _ _).mono ?_; rintro E w' ⟨rfl, rfl⟩)); go_ret; exact ⟨rfl, ext_⟩
    cases g4 : Sw.mixOk r
    case false => go_enter Try.func146, Try.ntmps146; go_wp2_with (first | (go_at_call 78; refine (l1In_c _ _ _ _).mono ?_; rintro E w' ⟨rfl, rfl⟩) | (go_at_call 147; refine (sMixOk_c _ _).mono ?_; rintro E w' ⟨rfl, rfl⟩)); go_ret; exact ⟨rfl, ext_⟩
    cases g5 : Sw.treOk xs
    case false => go_enter Try.func146, Try.ntmps146; go_wp2_with (first | (go_at_call 78; refine (l1In_c _ _ _ _).mono ?_; rintro E w' ⟨rfl, rfl⟩) | (go_at_call 147; refine (sMixOk_c _ _).mono ?_; rintro E w' ⟨rfl, rfl⟩) | (go_at_call 178; apply Calls.mono; apply sTreOk_c; ((first | (apply Rs.at0; assumption) | (apply Ow.rs0; assumption)); exact kf_); rintro E w' ⟨rfl, rfl⟩)); go_ret; exact ⟨rfl, ext_⟩
    have := Hg.out
    rw [g1, g2, g3, g4, g5] at this
    cases this

theorem sHedAt_c (A : Option Addr) (c n : Nat) (s : Int) (xs : List Sw.Ent) (w : World) (hxs : RE w 0 A c n xs) : Calls Try.prog 140 #[.slice A n c, .int .i64 s] w fun E w' => E = .returned (.tuple #[.agg #[.int .i64 ((Sw.hedAt xs s).getD Sw.headZ).size, .int .i64 ((Sw.hedAt xs s).getD Sw.headZ).log, .int .i64 ((Sw.hedAt xs s).getD Sw.headZ).own], .bool (Sw.hedAt xs s).isSome]) ∧ Ex w w' := by
  have hl := Lib.hid hxs.1
  have hcap := hxs.2.le
  have hbig : n ≤ 9223372036854775807 := by have := hxs.2.cap; unfold maxLen at this; omega
  cases h1 : Sw.inR s 0 n with
  | true =>
    have b1 : 0 ≤ s ∧ s ≤ n := by simpa [Sw.inR] using h1
    obtain ⟨k, rfl⟩ := Int.eq_ofNat_of_zero_le (show 0 ≤ s by omega)
    have z0 : (0 : Int) ≤ ↑k := by omega
    have z1 : (↑k : Int) ≤ ↑n := by omega
    have z2 : (↑k : Int) ≤ ↑c := by omega
    have e : Sw.hedAt xs k = Sw.hedOf (xs.take k) := by rw [Sw.hedAt, ← hl.out, h1]; rfl
    rw [e]
    clear e
    go_enter Try.func140, Try.ntmps140
    go_wp2_with (first | (go_at_call 78; refine (l1In_c _ _ _ _).mono ?_; rintro E w' ⟨rfl, rfl⟩) | (go_at_call 68; apply Calls.mono; apply sHedOf_c; (apply Rs.at0; apply Rs.take hxs (fun _ => rfl); omega; (exact kf_)); rintro E w1 ⟨rfl, hb⟩; have hst := xr hb; (try simp only [zA, zC, zD, zN] at hst); obtain ⟨hc, hf, hz⟩ := hst))
    refine bodyPost_ret (v := .tuple #[.agg #[.int .i64 ((Sw.hedOf (xs.take k)).getD Sw.headZ).size, .int .i64 ((Sw.hedOf (xs.take k)).getD Sw.headZ).log, .int .i64 ((Sw.hedOf (xs.take k)).getD Sw.headZ).own], .bool (Sw.hedOf (xs.take k)).isSome]) (by simp [results, Try.results140, go_sem, *]) rfl ?_
    exact ⟨rfl, ext_⟩
  | false =>
    have e : Sw.hedAt xs s = none := by rw [Sw.hedAt, ← hl.out, h1]; rfl
    rw [e]
    go_enter Try.func140, Try.ntmps140
    go_wp2_with (first | (go_at_call 78; refine (l1In_c _ _ _ _).mono ?_; rintro E w' ⟨rfl, rfl⟩))
    refine bodyPost_ret (v := .tuple #[.agg #[.int .i64 0, .int .i64 0, .int .i64 0], .bool false]) (by simp [results, Try.results140, go_sem, *]) rfl ?_
    exact ⟨rfl, ext_⟩

theorem sHedFollows_c (o t : Sw.Head) (A : Option Addr) (c n : Nat) (xs : List Int) (w : World) (hxs : RI w 0 A c n xs) : Calls Try.prog 74 #[.agg #[.int .i64 o.size, .int .i64 o.log, .int .i64 o.own], .agg #[.int .i64 t.size, .int .i64 t.log, .int .i64 t.own], .slice A n c] w fun E w' => E = .returned (.bool (Sw.hedFollows o t xs)) ∧ Ex w w' := by
  have hl := Lib.hid hxs.1
  cases g1 : Sw.hedOk o
  case false =>
    go_enter Try.func74, Try.ntmps74; go_wp2_with (first | (go_at_call 77; refine (sHedOk_c _ _).mono ?_; rintro E w1 ⟨rfl, hb⟩; have hst := xr hb; (try simp only [zA, zC, zD, zN] at hst); obtain ⟨hc, hf, hz⟩ := hst)); go_ret; exact ⟨ret_b (by simp [Sw.hedFollows, g1]), ext_⟩
  cases g2 : Sw.hedOk t
  case false =>
    go_enter Try.func74, Try.ntmps74; go_wp2_with (first | (go_at_call 77; refine (sHedOk_c _ _).mono ?_; rintro E w1 ⟨rfl, hb⟩; have hst := xr hb; (try simp only [zA, zC, zD, zN] at hst); obtain ⟨hc, hf, hz⟩ := hst)); go_ret; exact ⟨ret_b (by simp [Sw.hedFollows, g2]), ext_⟩
  by_cases g3 : o.size ≤ t.size
  case neg =>
    have e : Sw.hedFollows o t xs = false := by simp [Sw.hedFollows, g3]
    rw [e]; clear e
    have g3' : t.size < o.size := by omega
    go_enter Try.func74, Try.ntmps74; go_wp2_with (first | (go_at_call 77; refine (sHedOk_c _ _).mono ?_; rintro E w1 ⟨rfl, hb⟩; have hst := xr hb; (try simp only [zA, zC, zD, zN] at hst); obtain ⟨hc, hf, hz⟩ := hst)); go_ret; exact ⟨rfl, ext_⟩
  have n1 := g1; have n2 := g2
  simp only [Sw.hedOk, Sw.inR, Bool.and_eq_true, decide_eq_true_eq] at n1 n2
  obtain ⟨⟨⟨o0, _⟩, _⟩, _⟩ := n1
  obtain ⟨⟨⟨t0, _⟩, _⟩, _⟩ := n2
  by_cases g4 : o.size = 0
  · have z0 : (o.size == 0) = true := by simp [g4]
    have hle : decide (o.size ≤ t.size) = true := by simp [g3]
    have e : Sw.hedFollows o t xs = ((decide (o.size ≠ t.size) || decide (o = t)) && xs.isEmpty) := by rw [Sw.hedFollows, g1, g2, hle, if_pos g4]; simp
    have He := Lib.hid e
    have G4 := Lib.hid g4
    clear e g4
    by_cases hn : n = 0
    · have hx : xs = [] := List.eq_nil_of_length_eq_zero (by have := hl.out; omega)
      subst hx
      subst hn
      clear hl
      go_enter Try.func74, Try.ntmps74
      go_wp2_with (first | (go_at_call 77; refine (sHedOk_c _ _).mono ?_; rintro E w1 ⟨rfl, hb⟩; have hst := xr hb; (try simp only [zA, zC, zD, zN] at hst); obtain ⟨hc, hf, hz⟩ := hst))
      all_goals (go_ret; refine ⟨ret_b ?_, ext_⟩; rw [He.out]; have g4 := G4.out; clear He G4; go_tidy; simp only [head_ext])
      all_goals (first | (simp [*]; done) | (simp [*]; omega) | (simp_all; done) | (simp_all; omega))
    · have hb : ((n : Int) == 0) = false := by simp; omega
      have hx : xs.isEmpty = false := by
        cases xs with
        | nil => exact absurd hl.out hn
        | cons _ _ => rfl
      go_enter Try.func74, Try.ntmps74
      go_wp2_with (first | (go_at_call 77; refine (sHedOk_c _ _).mono ?_; rintro E w1 ⟨rfl, hb⟩; have hst := xr hb; (try simp only [zA, zC, zD, zN] at hst); obtain ⟨hc, hf, hz⟩ := hst))
      go_ret
      exact ⟨ret_b (by rw [He.out, hx]; simp), ext_⟩
  · have z0 : (o.size == 0) = false := by simp [g4]
    have hle : decide (o.size ≤ t.size) = true := by simp [g3]
    have e : Sw.hedFollows o t xs = ((decide (o.size ≠ t.size) || decide (o = t)) && Sw.conCheck o.size o.log t.size t.log xs) := by rw [Sw.hedFollows, g1, g2, hle, if_neg g4]; simp
    have He := Lib.hid e
    clear e g4
    go_enter Try.func74, Try.ntmps74
    go_wp2_with (first | (go_at_call 77; refine (sHedOk_c _ _).mono ?_; rintro E w1 ⟨rfl, hb⟩; have hst := xr hb; (try simp only [zA, zC, zD, zN] at hst); obtain ⟨hc, hf, hz⟩ := hst) | (go_at_call 146; apply Calls.mono; apply sConCheck_c; ((first | (apply Rs.at0; assumption) | (apply Ow.rs0; assumption)); exact kf_); rintro E w1 ⟨rfl, hb⟩; have hst := xr hb; (try simp only [zA, zC, zD, zN] at hst); obtain ⟨hc, hf, hz⟩ := hst))
    all_goals (go_ret; refine ⟨ret_b ?_, ext_⟩; rw [He.out]; clear He; go_tidy; simp only [head_ext])
    all_goals (first | (simp [*]; done) | (simp [*]; omega) | (simp_all; done) | (simp_all; omega))

end Go.Proofs.Ytgceeggfdomdjaa

namespace Go.Proofs.Ytgceeggfdomdjaa
set_option maxRecDepth 100000
set_option linter.unusedSimpArgs false
set_option linter.unusedVariables false
open Go.RowKit Go
set_option maxHeartbeats 400000

theorem sGatOk_c (t : Sw.Head) (A : Option Addr) (c n : Nat) (xs : List Int) (w : World) (hxs : RI w 0 A c n xs) : Calls Try.prog 20 #[.agg #[.int .i64 t.size, .int .i64 t.log, .int .i64 t.own, .slice A n c]] w fun E w' => E = .returned (.bool (Sw.gatOk ⟨t, xs⟩)) ∧ Ex w w' := by
  have hl := Lib.hid hxs.1
  have hcap := hxs.2.le
  have hbig : n ≤ 9223372036854775807 := by have := hxs.2.cap; unfold maxLen at this; omega
  cases g1 : Sw.hedOk t
  case false =>
    go_enter Try.func20, Try.ntmps20; go_wp2_with (first | (go_at_call 77; refine (sHedOk_c _ _).mono ?_; rintro E w1 ⟨rfl, hb⟩; have hst := xr hb; (try simp only [zA, zC, zD, zN] at hst); obtain ⟨hc, hf, hz⟩ := hst)); go_ret; exact ⟨ret_b (by simp [Sw.gatOk, g1]), ext_⟩
  by_cases hn : n ≤ 8
  case neg =>
    have hb8 : decide (8 < n) = true := by simp; omega
    have e : Sw.gatOk ⟨t, xs⟩ = false := by
      cases hr : Sw.risesFrom (-1) xs with
      | true => have := rises_len xs (-1) hr (by omega) (by omega); have := hl.out; omega
      | false => simp [Sw.gatOk, hr]
    rw [e]; clear e
    go_enter Try.func20, Try.ntmps20; go_wp2_with (first | (go_at_call 77; refine (sHedOk_c _ _).mono ?_; rintro E w1 ⟨rfl, hb⟩; have hst := xr hb; (try simp only [zA, zC, zD, zN] at hst); obtain ⟨hc, hf, hz⟩ := hst)); go_ret; exact ⟨rfl, ext_⟩
  have hb8 : decide (8 < n) = false := by simp; omega
  have e : Sw.gatOk ⟨t, xs⟩ = Sw.risesFrom (-1) xs := by simp [Sw.gatOk, g1]
  rw [e]; clear e
  go_enter Try.func20, Try.ntmps20
  go_wp2_with (first | (go_at_call 77; refine (sHedOk_c _ _).mono ?_; rintro E w1 ⟨rfl, hb⟩; have hst := xr hb; (try simp only [zA, zC, zD, zN] at hst); obtain ⟨hc, hf, hz⟩ := hst))
  go_loopw [3] (fun i wr => ∃ (k : Nat) (p : Int), k ≤ n ∧ i = .int .i64 k ∧ Ex w1 wr ∧ (k = 0 ∧ p = -1 ∨ ∃ j, k = j + 1 ∧ xs[j]? = some p ∧ 0 ≤ p) ∧ Sw.risesFrom (-1) xs = Sw.risesFrom p (xs.drop k)) (fun i _ => n - (intOf i).toNat)
  case atStart => exact ⟨0, -1, Nat.zero_le _, rfl, Ch.refl _ _, .inl ⟨rfl, rfl⟩, rfl⟩
  case round =>
    obtain ⟨k, p, hk, rfl, hb2, hp, hrel⟩ := hrel
    have hst := Ex.rules hb2 rfl
    obtain ⟨hc2, hf2, hz2⟩ := hst
    by_cases hlt : k < n
    · obtain ⟨g, off, y, rfl, hg0, hg, hd, hy, hcy⟩ := at_I hxs hlt
      rw [hd, Sw.risesFrom] at hrel
      have Hrel := Lib.hid hrel
      have Hy := Lib.hid hy
      clear hd hy hrel
      cases hin : Sw.inR y 0 7
      case false =>
        go_wp2_with fail
        go_quiet ((first | (go_at_call 78; exact Calls.quiet_same (l1In_c _ _ _ _))))
        go_wp2
        go_ret
        exact ⟨ret_b (by rw [Hrel.out, hin]; rfl), ext_⟩
      have hy7 : 0 ≤ y ∧ y ≤ 7 := by simpa [Sw.inR] using hin
      obtain ⟨y0, y7⟩ := hy7
      rcases hp with ⟨rfl, rfl⟩ | ⟨j, rfl, hj, hj0⟩
      · simp only [Nat.add_zero] at hcy
        go_wp2_with fail
        go_quiet ((first | (go_at_call 78; exact Calls.quiet_same (l1In_c _ _ _ _))))
        go_wp2
        go_roundw
        case rel => exact ⟨0 + 1, y, by omega, by go_num, ext_, .inr ⟨0, rfl, Hy.out, y0⟩, by rw [Hrel.out, hin]; simp; omega⟩
        case measure => simp [intOf]; omega
      · obtain ⟨g', off', p', hA', _, _, _, hp', hcp⟩ := at_I hxs (show j < n by omega)
        cases hA'
        obtain rfl : p' = p := by rw [hj] at hp'; exact (Option.some.inj hp').symm
        clear hj hp'
        have t1 : ((j : Int) + 1).toNat = j + 1 := by omega
        have t2 : IntKind.i64.wrap ((j : Int) + 1 - 1) = j := by rw [IntWalk.i64_in _ (by omega)]; omega
        have t3 : (0 : Int) ≤ (j : Int) + 1 := by omega
        have t4 : (j : Int) + 1 < (n : Int) := by omega
        have t5 : (j : Int) < (n : Int) := by omega
        by_cases hpy : p' < y
        · go_wp2_with fail
          go_quiet ((first | (go_at_call 78; exact Calls.quiet_same (l1In_c _ _ _ _))))
          go_wp2
          go_roundw
          case rel => exact ⟨j + 1 + 1, y, by omega, by go_num, ext_, .inr ⟨j + 1, rfl, Hy.out, y0⟩, by rw [Hrel.out, hin]; simp [hpy]⟩
          case measure => simp [intOf]; omega
        · have hpy' : y ≤ p' := by omega
          go_wp2_with fail
          go_quiet ((first | (go_at_call 78; exact Calls.quiet_same (l1In_c _ _ _ _))))
          go_wp2
          go_ret
          have hlt' : decide (p' < y) = false := by rw [decide_eq_false_iff_not]; omega
          exact ⟨ret_b (by rw [Hrel.out, hin, hlt']; rfl), ext_⟩
    · have Hrel := Lib.hid hrel; clear hrel hp
      go_wp2_with fail
      go_ret
      refine ⟨ret_b ?_, ext_⟩
      have hh := Hrel.out
      rw [List.drop_of_length_le (by have := hl.out; omega)] at hh
      rw [hh]; rfl

end Go.Proofs.Ytgceeggfdomdjaa

namespace Go.Proofs.Ytgceeggfdomdjaa
set_option maxRecDepth 100000
set_option linter.unusedSimpArgs false
set_option linter.unusedVariables false
open Go.RowKit Go
set_option maxHeartbeats 400000

theorem sCopy_c (t : Sw.Head) (A : Option Addr) (c n : Nat) (xs : List Int) (w : World) (hxs : RI w 0 A c n xs) (hn : n ≤ 4194304) : Calls Try.prog 73 #[.agg #[.int .i64 t.size, .int .i64 t.log, .int .i64 t.own, .slice A n c]] w fun E w' => ∃ A' c', E = .returned (.agg #[.int .i64 t.size, .int .i64 t.log, .int .i64 t.own, .slice A' n c']) ∧ OwI w' w.heap.size A' c' n xs ∧ Ex w w' := by
  go_enter Try.func73, Try.ntmps73
  go_wp2_with fail
  (refine wp_name ?_; intro W0 hb0; have hst := xr hb0; (try simp only [zA, zC, zD, zN] at hst); obtain ⟨hc0, hf0, hz0⟩ := hst; have hLb : Lb W0 (w.heap.size + 1) 4 := Lb.ex (by exact lbc_) hb0; go_region_held3 (fun w' => HeldB (w.heap.size + 1) 4 W0 w') ((first | with_reducible assumption | with_reducible exact HeldB.start hLb | with_reducible exact HeldB.of (by assumption) (by assumption) | ((repeat (first | with_reducible refine HeldB.set ?_ (by first | exact Or.inl rfl | exact Or.inr (by simp only [zA, zC, zD, zN]; omega) | exact Or.inr (by omega)) | with_reducible refine HeldB.alloc ?_ _ | with_reducible refine HeldB.drew ?_)); (first | with_reducible assumption | with_reducible exact HeldB.refl hLb | with_reducible exact HeldB.of (by assumption) (by assumption) | with_reducible exact HeldB.ex (by assumption) (by assumption))))) ((apply step_app (lo := W0.heap.size) el_I one_I rfl rfl rfl rfl; (first | assumption | exact Ow.nil _ _ | (apply Ow.keep; assumption; exact kf_) | (refine Ow.new [] (by (first | rfl | (simp only [zA, zC, zD, zN]; done) | omega)) rfl rfl (fun _ => rfl) (by exact sz_) (by omega))); (first | ((first | (apply Rs.at0; assumption) | (apply Ow.rs0; assumption)); exact kf_)); omega; exact sz_; intro A1 c1 w2 ho1 hch1 hat1 hex1 hlow1; have hbx := hex1 (· = (w.heap.size + 1)) W0 (HeldB.ch (by assumption : HeldB (w.heap.size + 1) 4 W0 _)) (by exact sz_); have hlbx := Lb.low hlow1 (by have := hLb.lt; omega) (HeldB.lb (by assumption : HeldB (w.heap.size + 1) 4 W0 _)); clear hex1 hlow1)); all_goals (rename HeldB (w.heap.size + 1) 4 W0 _ => hHx; have hb := HeldB.ch hHx; have hst := xc hb; (try simp only [zA, zC, zD, zN] at hst); obtain ⟨hc, hf, hz⟩ := hst; have hLb3 := HeldB.lb hHx; (repeat (first | with_reducible replace hLb3 := Lb.unset hLb3 | with_reducible replace hLb3 := Lb.undrew hLb3)); obtain ⟨hcb, hfb⟩ := Lb.rules hLb3; clear hHx))
  go_wp2
  refine bodyPost_ret (v := .agg #[.int .i64 t.size, .int .i64 t.log, .int .i64 t.own, .slice A1 n c1]) (by simp [results, Try.results73, go_sem, *]) rfl ?_
  refine ⟨A1, c1, rfl, ?_, ?_⟩
  · rw [List.nil_append, Nat.zero_add] at ho1
    exact (ho1.keep (by (exact kf_))).less (by omega)
  · exact ext_

theorem sGatNew_c (w : World) : Calls Try.prog 88 #[] w fun E w' => E = .returned (.agg #[.int .i64 ((Sw.hedOf []).getD Sw.headZ).size, .int .i64 ((Sw.hedOf []).getD Sw.headZ).log, .int .i64 ((Sw.hedOf []).getD Sw.headZ).own, .slice none 0 0]) ∧ Ex w w' := by
  go_enter Try.func88, Try.ntmps88
  go_wp2_with (first | (go_at_call 68; apply Calls.mono; apply (sHedOf_c (xs := [])); (refine Rs.new [] (by simp only [World.size_alloc]) rfl rfl (fun _ => rfl) (by omega)); rintro E w1 ⟨rfl, hb⟩; have hst := xr hb; (try simp only [zA, zC, zD, zN] at hst); obtain ⟨hc, hf, hz⟩ := hst))
  refine bodyPost_ret (v := .agg #[.int .i64 ((Sw.hedOf []).getD Sw.headZ).size, .int .i64 ((Sw.hedOf []).getD Sw.headZ).log, .int .i64 ((Sw.hedOf []).getD Sw.headZ).own, .slice none 0 0]) (by simp [results, Try.results88, go_sem, *]) rfl ?_
  exact ⟨rfl, ext_⟩
end Go.Proofs.Ytgceeggfdomdjaa

