/-
  Texts joined: RegX.
-/
import Derived.Test.YtdcjadgflenejaaPk1
namespace Go.Proofs.Ytdcjadgflenejaa
set_option maxRecDepth 100000
set_option linter.unusedSimpArgs false
set_option linter.unusedVariables false
open Go
section
variable {P : Program} {ops : Array Oper} {Q : Exit → Act → World → Prop} {md : Region.Mode} {S : World → Prop} {X : List Nat}
/-- In whatever order what is left comes up, Q holds behind it; S holds behind each operation that is not of X. -/
def GoesX (P : Program) (md : Region.Mode) (ops : Array Oper) (Q : Exit → Act → World → Prop) (S : World → Prop) (X : List Nat) : Nat → Array Bool → Act → World → Prop
  | 0 => fun l a w => Region.ready md ops l = [] ∧ Q .normal a w
  | n + 1 => fun l a w => (Region.ready md ops l = [] → Q .normal a w) ∧ ∀ i, i ∈ Region.ready md ops l → wpOp P ops Q i (fun b v => (X.contains i = false → S v) ∧ GoesX P md ops Q S X n (l.setIfInBounds i true) b v) a w
theorem GoesX.any : ∀ {n : Nat} {l : Array Bool} {a : Act} {w : World}, GoesX P md ops Q S X n l a w → wpAny P md ops Q n l a w
  | 0, _, _, _, h => h
  | _ + 1, _, _, _, h => ⟨h.1, fun i hi => wpOp_mono (fun _ _ k => GoesX.any k.2) (h.2 i hi)⟩
/-- What is of R has not come up, and waits for i, or for another one of R; all of X that has not come up is of R. -/
def lateX (md : Region.Mode) (ops : Array Oper) (X R : List Nat) (l : Array Bool) (i : Nat) : Bool :=
  (R.all fun x => !l.getD x true && (match ops[x]? with | some o => o.after.any (fun e => Region.binds md e && (e.on == i || R.contains e.on)) | none => false)) && X.all fun x => l.getD x true || R.contains x
theorem set_true {l : Array Bool} {x : Nat} : (l.setIfInBounds x true).getD x true = true := by
  by_cases hs : x < l.size
  · simp [Array.getD, hs]
  · simp [Array.getD, hs]
theorem lateX_not {R : List Nat} {l : Array Bool} {i j : Nat} (h : lateX md ops X R l i = true) (hi : l.getD i true = false) (hj : j ∈ Region.ready md ops l) : R.contains j = false := by
  cases hx : R.contains j with
  | false => rfl
  | true =>
    exfalso
    obtain ⟨jun, o, ho, hall⟩ := mem_ready.1 hj
    have hR := List.all_eq_true.1 (Bool.and_eq_true_iff.1 h).1
    have h1 := hR j (by simpa using hx)
    rw [ho, Bool.and_eq_true] at h1
    obtain ⟨e, he, hb⟩ := Array.any_eq_true'.1 h1.2
    rw [Bool.and_eq_true, Bool.or_eq_true, beq_iff_eq] at hb
    have h2 := hall e he hb.1
    have h3 : l.getD e.on true = false := by
      rcases hb.2 with hb | hb
      · rw [hb]; exact hi
      · have h4 := hR e.on (by simpa using hb)
        rw [Bool.and_eq_true, Bool.not_eq_true'] at h4
        exact h4.1
    by_cases hs : e.on < l.size
    · simp [Array.getD, hs] at h2 h3; rw [h2] at h3; cases h3
    · simp [Array.getD, hs] at h2
theorem lateX_X {R : List Nat} {l : Array Bool} {i j : Nat} (h : lateX md ops X R l i = true) (hi : l.getD i true = false) (hj : j ∈ Region.ready md ops l) : X.contains j = false := by
  have h1 := lateX_not h hi hj
  cases hx : X.contains j with
  | false => rfl
  | true =>
    have h2 := List.all_eq_true.1 (Bool.and_eq_true_iff.1 h).2 j (by simpa using hx)
    rw [h1, (mem_ready.1 hj).1] at h2
    cases h2
theorem lateX_more {R : List Nat} {l : Array Bool} {i j : Nat} (h : lateX md ops X R l i = true) (hj : R.contains j = false) : lateX md ops X R (l.setIfInBounds j true) i = true := by
  obtain ⟨h1, h2⟩ := Bool.and_eq_true_iff.1 h
  refine Bool.and_eq_true_iff.2 ⟨List.all_eq_true.2 fun x hx => ?_, List.all_eq_true.2 fun x hx => ?_⟩
  · have h3 := List.all_eq_true.1 h1 x hx
    have hjx : j ≠ x := by
      rintro rfl
      simp at hj
      exact hj hx
    rw [getD_set_ne true hjx]; exact h3
  · have h3 := List.all_eq_true.1 h2 x hx
    by_cases hjx : j = x
    · subst hjx
      rw [set_true]; rfl
    · rw [getD_set_ne true hjx]; exact h3
theorem free_more {l : Array Bool} {i j : Nat} (h : Region.free md ops l i = true) : Region.free md ops (l.setIfInBounds j true) i = true := by
  unfold Region.free at h ⊢
  cases hi : ops[i]? with
  | none => rw [hi] at h; exact h
  | some oi =>
    rw [hi] at h
    dsimp only at h ⊢
    rw [List.all_eq_true] at h ⊢
    intro x hx
    have h1 := h x hx
    by_cases hjx : j = x
    · subst hjx
      simp [set_true]
    · rw [getD_set_ne true hjx]; exact h1
/-- An operation that yields v wherever T holds is carried out first: T is what S says, and all of X comes behind it; or it is of X, and T says nothing. -/
theorem GoesX.first {T : World → Prop} {R : List Nat} {i : Nat} {oi : Oper} {v : Value} (hi : ops[i]? = some oi) (hsel : Region.noSelect ops = true)
    (hQ : ∀ c a w, Q (.panic c) (a.put oi.dst v) w → Q (.panic c) a w) : ∀ (n : Nat) (l : Array Bool) (a : Act) (w : World),
      ((X.contains i = true ∧ ∀ w, T w) ∨ (lateX md ops X R l i = true ∧ (∀ w, S w → T w) ∧ S w)) → Region.free md ops l i = true → i ∈ Region.ready md ops l → YieldsIf P ops T oi v a →
      GoesX P md ops Q S X n (l.setIfInBounds i true) (a.put oi.dst v) w → GoesX P md ops Q S X (n + 1) l a w := by
  have ns := Region.noSelect_spec hsel
  intro n
  induction n with
  | zero =>
    intro l a w hTS _ hr hy H
    refine ⟨fun h => absurd (h ▸ hr) (List.not_mem_nil), fun j hj => ?_⟩
    rcases Decidable.em (j = i) with rfl | hji
    · rcases hTS with ⟨h1, h2⟩ | ⟨h1, h2, h3⟩
      · exact hy.wpOp hi (h2 w) ⟨fun h => (by rw [h1] at h; cases h), H⟩
      · exact hy.wpOp hi (h2 w h3) ⟨fun _ => h3, H⟩
    · exact absurd (H.1 ▸ ready_mono hj hji) (List.not_mem_nil)
  | succ n ih =>
    intro l a w hTS hf hr hy H
    refine ⟨fun h => absurd (h ▸ hr) (List.not_mem_nil), fun j hj => ?_⟩
    rcases Decidable.em (j = i) with rfl | hji
    · rcases hTS with ⟨h1, h2⟩ | ⟨h1, h2, h3⟩
      · exact hy.wpOp hi (h2 w) ⟨fun h => (by rw [h1] at h; cases h), H⟩
      · exact hy.wpOp hi (h2 w h3) ⟨fun _ => h3, H⟩
    obtain ⟨jun, oj, hoj, hall⟩ := mem_ready.1 hj
    have iun := (mem_ready.1 hr).1
    have hno : ∀ e ∈ oj.after, Region.binds md e = true → e.on ≠ i := by
      rintro e he hb rfl
      have h1 := hall e he hb
      by_cases hs : e.on < l.size
      · simp [Array.getD, hs] at h1 iun; rw [h1] at iun; cases iun
      · simp [Array.getD, hs] at h1
    have key := wpOp_putIf hoj (Region.free_spec hi hf j oj hoj hji jun hno) (fun cs b => ns i oi cs b hi) (fun cs b => ns j oj cs b hoj) hQ hy (H.2 j (ready_mono hj hji))
    refine wpOp_mono (fun b u k => ⟨k.2.1, ?_⟩) key
    refine ih _ b u (hTS.imp id (fun h => ⟨lateX_more h.1 (lateX_not h.1 iun hj), h.2.1, k.2.1 (lateX_X h.1 iun hj)⟩)) (free_more hf) (ready_mono hr (Ne.symm hji)) k.1 ?_
    rw [Array.setIfInBounds_comm _ _ hji]
    exact k.2.2

/-- One that is wanted and reads nothing that S speaks of, or reads what S says. -/
theorem GoesX.take (i d : Nat) (R : List Nat) {v : Value} {oi : Oper} {n : Nat} {l : Array Bool} {a b : Act} {w : World} (hS : S w) (hi : ops[i]? = some oi := by rfl) (hd : oi.dst = some d := by rfl)
    (hs : Region.noSelect ops = true := by kernel_rfl) (hf : Region.free md ops l i = true := by kernel_rfl) (hr : (Region.ready md ops l).contains i = true := by kernel_rfl) (hl : lateX md ops X R l i = true := by kernel_rfl)
    (hw : Region.wanted oi (yielded ops a.tmps) = true := by rfl) (hy : ∀ w, S w → (execOp a.eval oi).run P w = .ok (.value v) w := by (intro w hSw; (try dsimp only at hSw); go_simp; (try with_reducible rfl)))
    (hQ : ∀ c a w, Q (.panic c) (a.put (some d) v) w → Q (.panic c) a w := by (exact (fun _ _ _ h => h))) (hb : a.put (some d) v = b := by (simp only [Act.put, List.setIfInBounds_toArray, List.set_cons_zero, List.set_cons_succ]; rfl))
    (h : GoesX P md ops Q S X n (l.setIfInBounds i true) b w) : GoesX P md ops Q S X (n + 1) l a w :=
  GoesX.first (T := S) hi hs (by rw [hd]; exact hQ) n l a w (.inr ⟨hl, fun _ h => h, hS⟩) hf (by simpa using hr) (.inl ⟨hw, hy⟩) (by rw [hd, hb]; exact h)
/-- One of X, that yields in whatever world. -/
theorem GoesX.takeX (i d : Nat) {v : Value} {oi : Oper} {n : Nat} {l : Array Bool} {a b : Act} {w : World} (hi : ops[i]? = some oi := by rfl) (hd : oi.dst = some d := by rfl)
    (hs : Region.noSelect ops = true := by kernel_rfl) (hf : Region.free md ops l i = true := by kernel_rfl) (hr : (Region.ready md ops l).contains i = true := by kernel_rfl) (hx : X.contains i = true := by kernel_rfl)
    (hw : Region.wanted oi (yielded ops a.tmps) = true := by rfl) (hy : ∀ w, (execOp a.eval oi).run P w = .ok (.value v) w := by (intro w; go_simp; (try with_reducible rfl)))
    (hQ : ∀ c a w, Q (.panic c) (a.put (some d) v) w → Q (.panic c) a w := by (exact (fun _ _ _ h => h))) (hb : a.put (some d) v = b := by (simp only [Act.put, List.setIfInBounds_toArray, List.set_cons_zero, List.set_cons_succ]; rfl))
    (h : GoesX P md ops Q S X n (l.setIfInBounds i true) b w) : GoesX P md ops Q S X (n + 1) l a w :=
  GoesX.first (T := fun _ => True) (R := []) hi hs (by rw [hd]; exact hQ) n l a w (.inl ⟨hx, fun _ => trivial⟩) hf (by simpa using hr) (.inl ⟨hw, fun w _ => hy w⟩) (by rw [hd, hb]; exact h)
/-- One that is not wanted. -/
theorem GoesX.skip (i d : Nat) (R : List Nat) {oi : Oper} {n : Nat} {l : Array Bool} {a b : Act} {w : World} (hS : S w) (hi : ops[i]? = some oi := by rfl) (hd : oi.dst = some d := by rfl)
    (hs : Region.noSelect ops = true := by kernel_rfl) (hf : Region.free md ops l i = true := by kernel_rfl) (hr : (Region.ready md ops l).contains i = true := by kernel_rfl) (hl : lateX md ops X R l i = true := by kernel_rfl)
    (hw : Region.wanted oi (yielded ops a.tmps) = false := by rfl)
    (hQ : ∀ c a w, Q (.panic c) (a.put (some d) undef) w → Q (.panic c) a w := by (exact (fun _ _ _ h => h))) (hb : a.put (some d) undef = b := by (simp only [Act.put, List.setIfInBounds_toArray, List.set_cons_zero, List.set_cons_succ]; rfl))
    (h : GoesX P md ops Q S X n (l.setIfInBounds i true) b w) : GoesX P md ops Q S X (n + 1) l a w :=
  GoesX.first (T := S) hi hs (by rw [hd]; exact hQ) n l a w (.inr ⟨hl, fun _ h => h, hS⟩) hf (by simpa using hr) (.inr ⟨hw, rfl⟩) (by rw [hd, hb]; exact h)

/-- Each of these comes up next. -/
def EachX (P : Program) (md : Region.Mode) (ops : Array Oper) (Q : Exit → Act → World → Prop) (S : World → Prop) (X : List Nat) (n : Nat) (l : Array Bool) (a : Act) (w : World) (rs : List Nat) : Prop :=
  ∀ i, i ∈ rs → wpOp P ops Q i (fun b v => (X.contains i = false → S v) ∧ GoesX P md ops Q S X n (l.setIfInBounds i true) b v) a w
theorem EachX.nil {n : Nat} {l : Array Bool} {a : Act} {w : World} : EachX P md ops Q S X n l a w [] := fun _ h => absurd h List.not_mem_nil
theorem EachX.put {n : Nat} {l : Array Bool} {a : Act} {w : World} {i : Nat} {o : Oper} {rs : List Nat} (ho : ops[i]? = some o) 
    (h : ∀ K : Act → World → Prop, Shut (∀ b v, (X.contains i = false → S v) → GoesX P md ops Q S X n (l.setIfInBounds i true) b v → K b v) → if Region.wanted o (yielded ops a.tmps) = true then Oper.wp P o a w K Q else K (a.put o.dst undef) w)
    (hs : EachX P md ops Q S X n l a w rs) : EachX P md ops Q S X n l a w (i :: rs) := fun j hj => by
  rcases List.mem_cons.1 hj with rfl | hj
  · exact wpOp_step ho (fun K hK => h K (fun b v h1 h2 => hK b v ⟨h1, h2⟩))
  · exact hs j hj
/-- One behind which S is to be shown; it is handed on. -/
theorem EachX.cons {n : Nat} {l : Array Bool} {a : Act} {w : World} {i : Nat} {o : Oper} {rs : List Nat} (ho : ops[i]? = some o)
    (h : ∀ K : Act → World → Prop, Shut (∀ b v, S v → (S v → GoesX P md ops Q S X n (l.setIfInBounds i true) b v) → K b v) → if Region.wanted o (yielded ops a.tmps) = true then Oper.wp P o a w K Q else K (a.put o.dst undef) w)
    (hs : EachX P md ops Q S X n l a w rs) : EachX P md ops Q S X n l a w (i :: rs) :=
  EachX.put ho (fun K hK => h K (fun b v hS hG => hK b v (fun _ => hS) (hG hS))) hs
/-- One of X. -/
theorem EachX.last {n : Nat} {l : Array Bool} {a : Act} {w : World} {i : Nat} {o : Oper} {rs : List Nat} (ho : ops[i]? = some o) (hx : X.contains i = true)
    (h : ∀ K : Act → World → Prop, Shut (∀ b v, GoesX P md ops Q S X n (l.setIfInBounds i true) b v → K b v) → if Region.wanted o (yielded ops a.tmps) = true then Oper.wp P o a w K Q else K (a.put o.dst undef) w)
    (hs : EachX P md ops Q S X n l a w rs) : EachX P md ops Q S X n l a w (i :: rs) :=
  EachX.put ho (fun K hK => h K (fun b v hG => hK b v (fun h => by rw [hx] at h; cases h) hG)) hs
theorem GoesX.ready {rs : List Nat} {n : Nat} {l : Array Bool} {a : Act} {w : World} (hr : Region.ready md ops l = rs) (hne : rs ≠ []) (h : EachX P md ops Q S X n l a w rs) : GoesX P md ops Q S X (n + 1) l a w :=
  ⟨fun h0 => absurd (hr ▸ h0) hne, fun i hi => h i (hr ▸ hi)⟩
theorem GoesX.done {l : Array Bool} {a : Act} {w : World} (hr : Region.ready md ops l = []) (h : Q .normal a w) : ∀ n, GoesX P md ops Q S X n l a w
  | 0 => ⟨hr, h⟩
  | _ + 1 => ⟨fun _ => h, fun i hi => absurd (hr ▸ hi) List.not_mem_nil⟩
/-- One way on. -/
theorem GoesX.one (i : Nat) {o : Oper} {n : Nat} {l : Array Bool} {a : Act} {w : World} (hr : Region.ready md ops l = [i] := by kernel_rfl) (ho : ops[i]? = some o := by rfl)
    (h : ∀ K : Act → World → Prop, Shut (∀ b v, S v → (S v → GoesX P md ops Q S X n (l.setIfInBounds i true) b v) → K b v) → if Region.wanted o (yielded ops a.tmps) = true then Oper.wp P o a w K Q else K (a.put o.dst undef) w) : GoesX P md ops Q S X (n + 1) l a w :=
  GoesX.ready hr (by simp) (EachX.cons ho h EachX.nil)
/-- One way on, of X. -/
theorem GoesX.oneX (i : Nat) {o : Oper} {n : Nat} {l : Array Bool} {a : Act} {w : World} (hr : Region.ready md ops l = [i] := by kernel_rfl) (ho : ops[i]? = some o := by rfl) (hx : X.contains i = true := by kernel_rfl)
    (h : ∀ K : Act → World → Prop, Shut (∀ b v, GoesX P md ops Q S X n (l.setIfInBounds i true) b v → K b v) → if Region.wanted o (yielded ops a.tmps) = true then Oper.wp P o a w K Q else K (a.put o.dst undef) w) : GoesX P md ops Q S X (n + 1) l a w :=
  GoesX.ready hr (by simp) (EachX.last ho hx h EachX.nil)
/-- Behind an operation: S, the state written out, and the rest. -/
theorem outS {n : Nat} {l : Array Bool} {a b : Act} {w : World} {K : Act → World → Prop} (hK : Shut (∀ b v, S v → (S v → GoesX P md ops Q S X n l b v) → K b v)) (hS : S w)
    (hb : a = b := by first | rfl | (simp only [Act.put, List.getElem_toArray, List.getElem_cons_succ, List.getElem_cons_zero, List.setIfInBounds_toArray, List.set_cons_zero, List.set_cons_succ]; rfl)) (h : S w → GoesX P md ops Q S X n l b w) : K a w := by
  subst hb; exact hK.out _ _ hS h
theorem outX {n : Nat} {l : Array Bool} {a b : Act} {w : World} {K : Act → World → Prop} (hK : Shut (∀ b v, GoesX P md ops Q S X n l b v → K b v))
    (hb : a = b := by first | rfl | (simp only [Act.put, List.getElem_toArray, List.getElem_cons_succ, List.getElem_cons_zero, List.setIfInBounds_toArray, List.set_cons_zero, List.set_cons_succ]; rfl)) (h : GoesX P md ops Q S X n l b w) : K a w := by
  subst hb; exact hK.out _ _ h
theorem wp_regionX (X : List Nat) {id : Nat} {a : Act} {w : World} (hS : S w.drew)
    (h : S w.drew → GoesX P .any ops Q S X ops.size (Array.replicate ops.size false) a w.drew) (hm : P.follows .mixedOrders = true := by kernel_rfl) : (Code.region id ops true).wp P Q a w := wp_region_any hm (GoesX.any (h hS))
end
theorem hdH {p : Prop} (h : p := by ((try dsimp only); (first | with_reducible assumption | with_reducible exact Held.start _ | with_reducible exact Held.of (by assumption) | with_reducible exact Held.ex (by assumption) (by assumption) | ((repeat (first | with_reducible refine Held.set ?_ (by simp only [zA, zC, zD, zN]; omega) | with_reducible refine Held.alloc ?_ _ | with_reducible refine Held.drew ?_)); (first | with_reducible assumption | with_reducible exact Held.refl _ | with_reducible exact Held.of (by assumption) | with_reducible exact Held.ex (by assumption) (by assumption))) | exact Held.of (by exact ext_)))) : p := h
theorem hdR {p : Prop} (h : p := by ((try dsimp only); (first | assumption | exact HeldR.of (by assumption) | exact HeldR.start _ _ | exact HeldR.ch (by assumption) (by assumption) | exact HeldR.ex (by assumption) (by assumption) | exact HeldR.alloc (by assumption) _ | exact HeldR.set (by assumption) (by simp only [zA, zC, zD, zN]; omega)))) : p := h
end Go.Proofs.Ytdcjadgflenejaa

