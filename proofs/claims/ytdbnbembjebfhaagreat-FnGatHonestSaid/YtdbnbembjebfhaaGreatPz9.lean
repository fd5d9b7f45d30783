/-
  Texts joined: Draw1.
-/
import Derived.Test.YtdbnbembjebfhaaGreatPz8
import Derived.Test.YtdbnbembjebfhaaGreatPz3
import Derived.Laws.BitsAllLaws
import Derived.Deep.DeepCutAuto
namespace Go.Proofs.YtdbnbembjebfhaaGreat
set_option maxRecDepth 100000
set_option linter.unusedSimpArgs false
set_option linter.unusedVariables false
open Go.RowKit Go
set_option maxHeartbeats 1000000

/-- A reader at block rb; it has read p times. -/
structure Rdr (w : World) (rb p : Nat) : Prop where
  ex : ∃ A c n bs, w.cell? ⟨rb, 0, none⟩ = some (.slice A n c) ∧ RB w 0 A c n bs ∧ n ≤ 2000 ∧ (∀ x ∈ bs, 0 ≤ x ∧ x ≤ 255) ∧ ∀ a, A = some a → 0 < n → a.block < rb
  pos : w.cell? ⟨rb, 1, none⟩ = some (.int .i64 p)
  free : ∀ i, w.frozen? ⟨rb, i, none⟩ = false
  lt : rb < w.heap.size
  lb : Lb w rb 2
/-- Blocks up to rb are as they were. -/
structure KB (rb : Nat) (w w' : World) : Prop where
  size : w.heap.size ≤ w'.heap.size
  block : ∀ b, b ≤ rb → b < w.heap.size → w'.heap[b]? = w.heap[b]?
theorem bR (rb : Nat) (w : World) : KB rb w w := ⟨Nat.le_refl _, fun _ _ _ => rfl⟩
theorem bA {rb : Nat} {a w : World} {o : Obj} (h : KB rb a w) : KB rb a (w.alloc o) :=
  ⟨by simp; have := h.size; omega, fun i hl hi => (Below.heap_alloc _ _ _ (Nat.lt_of_lt_of_le hi h.size)).trans (h.block i hl hi)⟩
theorem bD {rb : Nat} {a w : World} (h : KB rb a w) : KB rb a w.drew := ⟨h.size, h.block⟩
theorem bN {rb : Nat} {a w : World} {n : Nat} (h : KB rb a w) : KB rb a (w.drewN n) := ⟨h.size, h.block⟩
theorem bS {rb : Nat} {a w : World} {p : Addr} {u : Value} (h : KB rb a w) (hp : rb < p.block) : KB rb a (w.setCell p u) :=
  ⟨by simpa [World.setCell] using h.size, fun i hl hi => (Below.heap_setCell _ _ _ _ (by rintro rfl; omega)).trans (h.block i hl hi)⟩
theorem bE {rb : Nat} {a w w' : World} (hb : Ex w w') (h : KB rb a w) : KB rb a w' :=
  ⟨Nat.le_trans h.size hb.size, fun i hl hi => (hb.block i (Nat.lt_of_lt_of_le hi h.size) (fun h => h)).trans (h.block i hl hi)⟩
theorem bC {g rb : Nat} {a w w' : World} (hb : Ch (· = g) w w') (h : KB rb a w) (hg : rb < g) : KB rb a w' :=
  ⟨Nat.le_trans h.size hb.size, fun i hl hi => (hb.block i (Nat.lt_of_lt_of_le hi h.size) (by omega)).trans (h.block i hl hi)⟩
theorem kb_ {p : Prop} (h : p := by with_reducible repeat (first | exact bR _ _ | apply bA | apply bD | apply bN | (refine bS ?_ (by first | omega | (simp only [zA, zC, zD, zN]; omega))) | (apply bE; assumption) | (refine bC (by assumption) ?_ (by first | omega | (simp only [zA, zC, zD, zN]; omega))))) : p := h
theorem Rdr.keep {w w' : World} {rb p : Nat} (h : Rdr w rb p) (k : KB rb w w') : Rdr w' rb p := by
  obtain ⟨A, c, n, bs, h1, h2, h3, h4, h5⟩ := h.ex
  have hb := k.block rb (Nat.le_refl _) h.lt
  refine ⟨⟨A, c, n, bs, (World.cell?_of_block (w := w) (a := ⟨rb, 0, none⟩) hb).trans h1, ⟨h2.1, ?_⟩, h3, h4, h5⟩, (World.cell?_of_block (w := w) (a := ⟨rb, 1, none⟩) hb).trans h.pos, fun i => (World.frozen?_of_block (w := w) (a := ⟨rb, i, none⟩) hb).trans (h.free i), Nat.lt_of_lt_of_le h.lt k.size, ?_⟩
  case refine_2 => obtain ⟨cs, T, h6, h7⟩ := h.lb; exact ⟨cs, T, hb.trans h6, h7⟩
  refine ⟨h2.2.len, h2.2.le, h2.2.cap, h2.2.nil, fun a ha hn => ?_⟩
  obtain ⟨q1, q2, q3, q4⟩ := h2.2.cells a ha hn
  exact ⟨q1, q2, Nat.lt_of_lt_of_le q3 k.size, fun j u hu => (World.cell?_of_block (w := w) (a := ⟨a.block, a.off + j, none⟩) (k.block a.block (Nat.le_of_lt (h5 a ha hn)) q3)).trans (q4 j u hu)⟩
theorem Rdr.step {w : World} {rb p : Nat} (h : Rdr w rb p) : Rdr (w.setCell ⟨rb, 1, none⟩ (.int .i64 ((p : Int) + 1))) rb (p + 1) := by
  obtain ⟨A, c, n, bs, h1, h2, h3, h4, h5⟩ := h.ex
  have hne : ∀ b, b ≠ rb → (w.setCell ⟨rb, 1, none⟩ (.int .i64 ((p : Int) + 1))).heap[b]? = w.heap[b]? := fun b hb => Below.heap_setCell _ _ _ _ hb
  obtain ⟨o, ho⟩ : ∃ o, w.heap[rb]? = some o := ⟨_, Array.getElem?_eq_getElem h.lt⟩
  have hpos := h.pos
  cases o with
  | cells cs T fz =>
    have hs : ∀ i, i ≠ 1 → (w.setCell ⟨rb, 1, none⟩ (.int .i64 ((p : Int) + 1))).cell? ⟨rb, i, none⟩ = w.cell? ⟨rb, i, none⟩ := by
      intro i hi
      simp [World.cell?, World.setCell, Array.getElem?_modify, ho, Array.getElem?_setIfInBounds, Ne.symm hi]
    refine ⟨⟨A, c, n, bs, (hs 0 (by omega)).trans h1, ⟨h2.1, ?_⟩, h3, h4, h5⟩, ?_, fun i => ?_, by simpa [World.setCell] using h.lt, h.lb.set⟩
    · refine ⟨h2.2.len, h2.2.le, h2.2.cap, h2.2.nil, fun a ha hn => ?_⟩
      obtain ⟨q1, q2, q3, q4⟩ := h2.2.cells a ha hn
      exact ⟨q1, q2, by simpa [World.setCell] using q3, fun j u hu => (World.cell?_of_block (w := w) (a := ⟨a.block, a.off + j, none⟩) (hne _ (show a.block ≠ rb by have := h5 a ha hn; omega))).trans (q4 j u hu)⟩
    · have hlt : 1 < cs.size := by
        simp only [World.cell?, ho] at hpos
        by_cases h : 1 < cs.size
        · exact h
        · simp [Array.getElem?_eq_none (by omega : cs.size ≤ 1)] at hpos
      simp [World.cell?, World.setCell, Array.getElem?_modify, ho, Array.getElem?_setIfInBounds, hlt]
    · have := h.free i
      simp [World.frozen?, World.setCell, Array.getElem?_modify, ho] at this ⊢
      exact this
  | _ => simp [World.cell?, ho] at hpos

theorem xor_nat (a b : Nat) (ha : a < 4611686018427387904) (hb : b < 4611686018427387904) : bits .xor .i64 (a : Int) (b : Int) = ((a ^^^ b : Nat) : Int) := by
  show IntKind.i64.wrap ((BitVec.ofInt 64 (a : Int) ^^^ BitVec.ofInt 64 (b : Int)).toNat : Int) = _
  have hx : a ^^^ b < 2 ^ 62 := Nat.xor_lt_two_pow (by omega) (by omega)
  rw [BitVec.toNat_xor, BitVec.ofInt_natCast, BitVec.ofInt_natCast, BitVec.toNat_ofNat, BitVec.toNat_ofNat, Nat.mod_eq_of_lt (by omega), Nat.mod_eq_of_lt (by omega), IntWalk.i64_in _ (by omega)]

/-- A reader that has read at most P times. -/
def Rdp (w : World) (rb P : Nat) : Prop := ∃ p, p ≤ P ∧ Rdr w rb p
theorem Rdp.keep {w w' : World} {rb P : Nat} (h : Rdp w rb P) (k : KB rb w w') : Rdp w' rb P := by
  obtain ⟨p, hp, h⟩ := h
  exact ⟨p, hp, h.keep k⟩
theorem Rdp.more {w : World} {rb P Q : Nat} (h : Rdp w rb P) (k : P ≤ Q) : Rdp w rb Q := by
  obtain ⟨p, hp, h⟩ := h
  exact ⟨p, by omega, h⟩
theorem Rdp.lt {w : World} {rb P : Nat} (h : Rdp w rb P) : rb < w.heap.size := by
  obtain ⟨p, hp, h⟩ := h
  exact h.lt
theorem Rdp.lb {w : World} {rb P : Nat} (h : Rdp w rb P) : Lb w rb 2 := by
  obtain ⟨p, hp, h⟩ := h
  exact h.lb
theorem HeldC.chr {g n rb m : Nat} {W w w' : World} (k : HeldC g n rb m W w) (c : Ch (· = rb) w w') (l : Lb w' rb m) : HeldC g n rb m W w' := by
  by_cases hg : g = rb
  · subst hg
    obtain ⟨cs, T, h1, h2⟩ := k.lb
    obtain ⟨cs', T', h3, h4⟩ := k.lc
    rw [h1] at h3
    cases h3
    have hnm : n = m := by omega
    subst hnm
    exact .of (k.ch.trans' c (fun i _ hi => Or.inr hi)) l l
  · exact .of (k.ch.trans' c (fun i _ hi => Or.inr hi)) (Lb.chk c k.lb hg) l
theorem Rdr.new {w : World} {A : Option Addr} {c n : Nat} {bs : List Int} {T : TypeId} (h : RB w 0 A c n bs) (hn : n ≤ 2000) (hq : ∀ x ∈ bs, 0 ≤ x ∧ x ≤ 255) :
    Rdr (w.alloc (.cells #[.slice A n c, .int .i64 0] T)) w.heap.size 0 := by
  refine ⟨⟨A, c, n, bs, by simp [go_sem], h.keep (KF.refl _ _).alloc, hn, hq, fun a ha hn0 => ?_⟩, by simp [go_sem], fun i => by simp [go_sem], by simp, Lb.new rfl rfl⟩
  exact (h.2.cells a ha hn0).2.2.1

/-- Blocks up to rb, behind an append to what lies higher. -/
theorem bL {rb lo : Nat} {a w w' : World} (hz : w.heap.size ≤ w'.heap.size) (hl : ∀ b, b < lo → w'.heap[b]? = w.heap[b]?) (h : KB rb a w) (hr : rb < lo) : KB rb a w' :=
  ⟨Nat.le_trans h.size hz, fun i hi hs => (hl i (by omega)).trans (h.block i hi hs)⟩

theorem RB_take {w : World} {lo c n k : Nat} {A : Option Addr} {xs : List Int} (h : RB w lo A c n xs) (hk : k ≤ n) : RB w lo A c k (xs.take k) := Rs.take h (fun _ => rfl) hk

theorem l20Open_c (A : Option Addr) (c n : Nat) (bs : List Int) (w : World) (hxs : RB w 0 A c n bs) (hq : ∀ x ∈ bs, 0 ≤ x ∧ x ≤ 255) : Calls Tryz.prog 33 #[.slice A n c] w fun E w' => ∃ rb, E = .returned (.pointer (some ⟨rb, 0, none⟩)) ∧ Rdp w' rb 0 ∧ w.heap.size ≤ rb ∧ Ex w w' := by
  have hl := Lib.hid hxs.1
  have hcap := hxs.2.le
  have hbig := Rs.big hxs
  by_cases hn : n ≤ 2000
  · have hb : decide (2000 < n) = false := by simp; omega
    have H0 := Lib.hid (And.intro hxs hq)
    clear hxs hq
    go_enter Tryz.func33, Tryz.ntmps33
    go_wp2_with fail
    go_ret
    refine ⟨_, rfl, ⟨0, Nat.le_refl _, Rdr.new H0.out.1 hn H0.out.2⟩, Nat.le_refl _, ext_⟩
  · have H0 := Lib.hid (And.intro hxs hq)
    clear hxs hq
    go_enter Tryz.func33, Tryz.ntmps33
    go_wp2_with fail
    go_ret
    refine ⟨_, rfl, ⟨0, Nat.le_refl _, Rdr.new (RB_take H0.out.1 (show 2000 ≤ n by omega)) (Nat.le_refl _) (fun x hx => H0.out.2 x (List.mem_of_mem_take hx))⟩, Nat.le_refl _, ext_⟩

theorem emod_bd (a : Nat) {m : Nat} (hm : 0 < m) : (0 : Int) ≤ (a : Int) % (m : Int) ∧ (a : Int) % (m : Int) < m := ⟨Int.emod_nonneg _ (by omega), Int.emod_lt_of_pos _ (by omega)⟩
theorem tmod_nn {x n : Int} (hx : 0 ≤ x) (hn : 1 ≤ n) : 0 ≤ x.tmod n ∧ x.tmod n < n := by
  rw [Int.tmod_eq_emod_of_nonneg hx]
  exact ⟨Int.emod_nonneg _ (by omega), Int.emod_lt_of_pos _ (by omega)⟩

theorem pick_c (rb P : Nat) (n : Int) (w : World) (hr : Rdp w rb P) (hP : P ≤ 1000000) (h1 : 1 ≤ n) : Calls Tryz.prog 35 #[.pointer (some ⟨rb, 0, none⟩), .int .i64 n] w fun E w' => ∃ v, E = .returned (.int .i64 v) ∧ (0 ≤ v ∧ v < n) ∧ Rdp w' rb (P + 1) ∧ Ch (· = rb) w w' := by
  obtain ⟨p, hp, hr⟩ := hr
  have Hs := Lib.hid (show Rdp (w.setCell ⟨rb, 1, none⟩ (.int .i64 ((p : Int) + 1))) rb (P + 1) from ⟨p + 1, by omega, hr.step⟩)
  obtain ⟨⟨A, c, m, bs, hc0, hbs, hm, hq, hab⟩, hc1, hfr, hlt⟩ := hr
  have hbig := Rs.big hbs
  have Hq := Lib.hid hq
  clear hq
  by_cases h0 : m = 0
  · subst h0
    go_enter Tryz.func35, Tryz.ntmps35
    go_wp2_with fail
    go_ret
    exact ⟨0, rfl, ⟨by omega, by omega⟩, Hs.out, Ch.setCell (S := (· = rb)) (Ch.refl _ _) (.inl rfl) _⟩
  have hm0 : 0 < m := by omega
  have hb0 : ((m : Int) == 0) = false := by simp; omega
  by_cases hlt : p < m
  · obtain ⟨g, off, y, rfl, hg0, hg, hd, hy, hc⟩ := at_B hbs hlt
    have hgr := hab _ rfl hm0
    dsimp only at hgr
    have hyb := Hq.out y (List.mem_of_getElem? hy)
    obtain ⟨hy0, hy1⟩ := hyb
    clear hd hy hab
    go_enter Tryz.func35, Tryz.ntmps35
    go_wp2_with fail
    go_ret
    exact ⟨_, rfl, ⟨Int.emod_nonneg _ (by omega), Int.emod_lt_of_pos _ (by omega)⟩, Hs.out, Ch.setCell (S := (· = rb)) (Ch.refl _ _) (.inl rfl) _⟩
  · have t1 := emod_bd p hm0
    obtain ⟨t10, t11⟩ := t1
    have t2 : (0 : Int) ≤ ((p : Int) * 7 + 3) % (m : Int) ∧ ((p : Int) * 7 + 3) % (m : Int) < m := ⟨Int.emod_nonneg _ (by omega), Int.emod_lt_of_pos _ (by omega)⟩
    obtain ⟨t20, t21⟩ := t2
    obtain ⟨g, off, y, rfl, hg0, hg, hd, hy, hcy⟩ := at_B hbs (Nat.mod_lt p hm0)
    obtain ⟨g', off', z, hA', _, _, hd', hz, hcz⟩ := at_B hbs (Nat.mod_lt (p * 7 + 3) hm0)
    cases hA'
    have hgr := hab _ rfl hm0
    dsimp only at hgr
    have hyb := Hq.out y (List.mem_of_getElem? hy)
    obtain ⟨hy0, hy1⟩ := hyb
    have hzb := Hq.out z (List.mem_of_getElem? hz)
    obtain ⟨hz0, hz1⟩ := hzb
    rw [show p % m = ((p : Int) % (m : Int)).toNat from by rw [← Int.natCast_emod]; exact (Int.toNat_natCast _).symm] at hcy
    rw [show (p * 7 + 3) % m = (((p : Int) * 7 + 3) % (m : Int)).toNat from by
      rw [show (p : Int) * 7 + 3 = ((p * 7 + 3 : Nat) : Int) from by omega, ← Int.natCast_emod]; exact (Int.toNat_natCast _).symm] at hcz
    clear hd hy hd' hz hab
    have w1 : IntKind.i64.wrap ((p : Int) * 7) = (p : Int) * 7 := IntWalk.i64_in _ (by omega)
    have w2 : IntKind.i64.wrap ((p : Int) * 7 + 3) = (p : Int) * 7 + 3 := IntWalk.i64_in _ (by omega)
    have w3 : IntKind.i64.wrap (y * 131) = y * 131 := IntWalk.i64_in _ (by omega)
    have w4 : IntKind.i64.wrap (z * 1117) = z * 1117 := IntWalk.i64_in _ (by omega)
    have w5 : IntKind.i64.wrap (y * 131 + z * 1117) = y * 131 + z * 1117 := IntWalk.i64_in _ (by omega)
    have w6 : IntKind.i64.wrap ((p : Int) * 29) = (p : Int) * 29 := IntWalk.i64_in _ (by omega)
    have w7 : IntKind.i64.wrap (y * 131 + z * 1117 + (p : Int) * 29) = y * 131 + z * 1117 + (p : Int) * 29 := IntWalk.i64_in _ (by omega)
    have e1 : (p : Int).tmod (m : Int) = (p : Int) % (m : Int) := Int.tmod_eq_emod_of_nonneg (by omega)
    have e2 : ((p : Int) * 7 + 3).tmod (m : Int) = ((p : Int) * 7 + 3) % (m : Int) := Int.tmod_eq_emod_of_nonneg (by omega)
    have e3 : (p : Int).tdiv (m : Int) = (p : Int) / (m : Int) := Int.tdiv_eq_ediv_of_nonneg (by omega)
    have t30 : (0 : Int) ≤ (p : Int) / (m : Int) := Int.ediv_nonneg (by omega) (by omega)
    have t31 : (p : Int) / (m : Int) ≤ p := Int.ediv_le_self _ (by omega)
    have w8 : IntKind.i64.wrap ((p : Int) / (m : Int) * 53) = (p : Int) / (m : Int) * 53 := IntWalk.i64_in _ (by omega)
    have w9 : IntKind.i64.wrap (y * 131 + z * 1117 + (p : Int) * 29 + (p : Int) / (m : Int) * 53) = y * 131 + z * 1117 + (p : Int) * 29 + (p : Int) / (m : Int) * 53 := IntWalk.i64_in _ (by omega)
    go_enter Tryz.func35, Tryz.ntmps35
    go_wp2_with fail
    go_quiet ((first | fail))
    go_wp2
    go_ret
    obtain ⟨X, hX⟩ : ∃ X : Nat, y * 131 + z * 1117 + (p : Int) * 29 + (p : Int) / (m : Int) * 53 = X := ⟨_, (Int.toNat_of_nonneg (by omega)).symm⟩
    have hXb : X < 4611686018427387904 := by omega
    have hx := xor_nat X (X / 64) hXb (by omega)
    rw [show ((X / 64 : Nat) : Int) = (X : Int) / 64 from by omega] at hx
    refine ⟨_, rfl, ?_, Hs.out.keep (bN (bR _ _)), (Ch.setCell (S := (· = rb)) (Ch.refl _ _) (.inl rfl) _).drewN _⟩
    rw [hX, hx]
    exact tmod_nn (Int.natCast_nonneg _) h1

def LitQ (Q : Int → Prop) : List Value → Prop
  | [] => True
  | u :: us => (∃ x, u = .int .i64 x ∧ Q x) ∧ LitQ Q us
theorem LitQ.nil {Q : Int → Prop} : LitQ Q [] := trivial
theorem LitQ.cons {Q : Int → Prop} {u : Value} {us : List Value} (h : ∃ x, u = .int .i64 x ∧ Q x) (k : LitQ Q us) : LitQ Q (u :: us) := ⟨h, k⟩
theorem LitQ.at_ {Q : Int → Prop} : ∀ {us : List Value} {i : Nat}, LitQ Q us → i < us.length → ∃ x, us[i]? = some (.int .i64 x) ∧ Q x
  | [], i, _, h => absurd h (by simp)
  | u :: us, 0, h, _ => by obtain ⟨⟨x, rfl, hx⟩, _⟩ := h; exact ⟨x, rfl, hx⟩
  | u :: us, i + 1, h, hi => LitQ.at_ (us := us) h.2 (by simpa using hi)
/-- Behind an append to what lies higher. -/
theorem Rdp.low {w w' : World} {rb P lo : Nat} (h : Rdp w rb P) (hz : w.heap.size ≤ w'.heap.size) (hl : ∀ b, b < lo → w'.heap[b]? = w.heap[b]?) (hr : rb < lo) : Rdp w' rb P := h.keep (bL hz hl (bR _ _) hr)
/-- A draw out of a literal that was just written out. -/
theorem pickLit (Q : Int → Prop) {rb P : Nat} {n : Int} {w : World} {cs : Array Value} {T : TypeId} (hr : Rdp (w.alloc (.cells cs T)) rb P) (hP : P ≤ 1000000) (hn : n = cs.toList.length) (hQ : LitQ Q cs.toList) (h1 : 1 ≤ n) (hlt : rb < w.heap.size) :
    Calls Tryz.prog 35 #[.pointer (some ⟨rb, 0, none⟩), .int .i64 n] (w.alloc (.cells cs T)) fun E w' => ∃ (v : Nat) (x : Int), E = .returned (.int .i64 v) ∧ (v : Int) < n ∧ Q x ∧ w'.cell? ⟨w.heap.size, v, none⟩ = some (.int .i64 x) ∧ Rdp w' rb (P + 1) ∧ Ch (· = rb) (w.alloc (.cells cs T)) w' := by
  refine (pick_c rb P n _ hr hP h1).mono ?_
  rintro E w' ⟨v, rfl, ⟨h2, h3⟩, h4, h5⟩
  obtain ⟨v, rfl⟩ := Int.eq_ofNat_of_zero_le h2
  obtain ⟨x, hx, hq⟩ := LitQ.at_ (i := v) hQ (by omega)
  refine ⟨v, x, rfl, h3, hq, ?_, h4, h5⟩
  have := h5.cell (p := ⟨w.heap.size, v, none⟩) (by simp) (by show ¬ w.heap.size = rb; omega)
  rw [this]
  simp only [World.cell?, heap_alloc_new]
  simpa using hx

theorem odd_c (rb P : Nat) (n : Int) (w : World) (hr : Rdp w rb P) (hP : P ≤ 1000000) (h1 : 1 ≤ n) (h2 : n ≤ 1000000) : Calls Tryz.prog 36 #[.pointer (some ⟨rb, 0, none⟩), .int .i64 n] w fun E w' => ∃ b, E = .returned (.bool b) ∧ Rdp w' rb (P + 1) ∧ Ch (· = rb) w w' := by
  go_enter Tryz.func36, Tryz.ntmps36
  go_wp2_with (go_at_call 35; apply Calls.mono; apply pick_c; (apply Rdp.keep; assumption; (exact kb_)); (first | assumption | omega); (first | assumption | omega); rintro E w1 ⟨v, rfl, ⟨hv0, hv1⟩, hrd, hb⟩; have hst := xc hb; (try simp only [zA, zC, zD, zN] at hst); obtain ⟨hc, hf, hz⟩ := hst)
  go_ret
  exact ⟨_, rfl, hrd, ext_⟩
theorem l20Mix_c (rb P : Nat) (n : Int) (w : World) (hr : Rdp w rb P) (hP : P ≤ 999000) (h1 : 1 ≤ n) (h2 : n ≤ 1000000) : Calls Tryz.prog 41 #[.pointer (some ⟨rb, 0, none⟩), .int .i64 n] w fun E w' => ∃ m, E = .returned (.int .i64 m) ∧ Rdp w' rb (P + 4) ∧ Ch (· = rb) w w' := by
  have hlt := hr.lt
  go_enter Tryz.func41, Tryz.ntmps41
  go_wp2_with (first | (go_at_call 36; apply Calls.mono; apply odd_c; (apply Rdp.keep; assumption; (exact kb_)); (first | assumption | omega); (first | assumption | omega); (first | assumption | omega); rintro E w1 ⟨b, rfl, hrd, hb⟩; have hst := xc hb; (try simp only [zA, zC, zD, zN] at hst); obtain ⟨hc, hf, hz⟩ := hst) | (go_at_call 35; apply Calls.mono; apply (pickLit (fun _ => True)); (apply Rdp.keep; assumption; (exact kb_)); omega; (first | rfl | (simp; done)); (repeat (first | exact LitQ.nil | (refine LitQ.cons ⟨_, rfl, (by first | exact trivial | omega)⟩ ?_))); omega; (first | omega | (simp only [zA, zC, zD, zN]; omega)); rintro E w1 ⟨v, x, rfl, hv, hq, hcx, hrd, hb⟩; (try simp only [zA, zC, zD, zN] at hcx); have hst := xc hb; (try simp only [zA, zC, zD, zN] at hst); obtain ⟨hc, hf, hz⟩ := hst) | (go_at_call 35; apply Calls.mono; apply pick_c; (apply Rdp.keep; assumption; (exact kb_)); (first | assumption | omega); (first | assumption | omega); rintro E w1 ⟨v, rfl, ⟨hv0, hv1⟩, hrd, hb⟩; have hst := xc hb; (try simp only [zA, zC, zD, zN] at hst); obtain ⟨hc, hf, hz⟩ := hst))
  all_goals (go_ret; exact ⟨_, rfl, hrd.more (by omega), ext_⟩)
/-- Block g is n numbers, none frozen. -/
def Ints (w : World) (g n : Nat) : Prop := ∃ (zs : List Int) (T : TypeId), zs.length = n ∧ w.heap[g]? = some (.cells (zs.map (Value.int .i64)).toArray T (0, 0))
section
variable {w w' : World} {g n : Nat}
theorem Ints.lt (h : Ints w g n) : g < w.heap.size := by
  obtain ⟨zs, T, h1, h2⟩ := h
  exact (Array.getElem?_eq_some_iff.1 h2).1
theorem Ints.new {cs : Array Value} {T : TypeId} {zs : List Int} (hg : g = w.heap.size) (hcs : cs = (zs.map (Value.int .i64)).toArray) (hn : zs.length = n) : Ints (w.alloc (.cells cs T)) g n := by
  subst hg hcs
  exact ⟨zs, T, hn, heap_alloc_new w _⟩
theorem Ints.alloc {o : Obj} (h : Ints w g n) : Ints (w.alloc o) g n := by
  have := h.lt
  obtain ⟨zs, T, h1, h2⟩ := h
  exact ⟨zs, T, h1, (Below.heap_alloc w o g this).trans h2⟩
theorem Ints.drew (h : Ints w g n) : Ints w.drew g n := h
theorem Ints.ch {S : Nat → Prop} (hb : Ch S w w') (hS : ¬ S g) (h : Ints w g n) : Ints w' g n := by
  have := h.lt
  obtain ⟨zs, T, h1, h2⟩ := h
  exact ⟨zs, T, h1, (hb.block g this hS).trans h2⟩
theorem Ints.set {p : Addr} {v : Int} (h : Ints w g n) (hp : p.spot = none) : Ints (w.setCell p (.int .i64 v)) g n := by
  obtain ⟨zs, T, h1, h2⟩ := h
  by_cases he : p.block = g
  · subst he
    refine ⟨zs.set p.off v, T, by rw [List.length_set]; exact h1, ?_⟩
    simp only [World.setCell, Array.getElem?_modify, if_true, h2, Option.map_some, hp]
    congr 2
    apply Array.ext'
    simp [List.map_set]
  · exact ⟨zs, T, h1, (Below.heap_setCell w p _ g (fun e => he e.symm)).trans h2⟩
theorem Ints.lb (h : Ints w g n) : Lb w g n := by
  obtain ⟨zs, T, h1, h2⟩ := h
  exact ⟨_, T, h2, by simp [h1]⟩
theorem Ints.free (h : Ints w g n) : ∀ i, w.frozen? ⟨g, i, none⟩ = false := h.lb.rules.2
theorem Ints.at_ (h : Ints w g n) {i : Nat} (hi : i < n) : ∃ a : Int, w.cell? ⟨g, i, none⟩ = some (.int .i64 a) := by
  obtain ⟨zs, T, h1, h2⟩ := h
  refine ⟨zs[i], ?_⟩
  simp [World.cell?, h2, h1, hi]
end
/-- Where a struct of n numbers is drawn into block g, to be handed out by block r. -/
structure DrawAt (w0 w : World) (rb r g n P : Nat) : Prop where
  own : Ints w g n
  res : Ints w r n
  rd : Rdp w rb P
  ch : Ch (· = rb) w0 w
end Go.Proofs.YtdbnbembjebfhaaGreat

