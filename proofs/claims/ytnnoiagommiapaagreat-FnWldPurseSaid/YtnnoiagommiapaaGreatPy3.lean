/- Texts joined: Plain1, RegX. -/
import Derived.Test.YtnnoiagommiapaaGreatPy2
import Derived.Test.YtnnoiagommiapaaGreatPy1
set_option maxRecDepth 100000
set_option linter.unusedSimpArgs false
set_option linter.unusedVariables false
namespace Go.Proofs.YtnnoiagommiapaaGreat.Sw
open Go.RowKit (wrap64)
theorem inR_iff {n a b : Int} : inR n a b = true ↔ a ≤ n ∧ n ≤ b := by simp [inR]
theorem rowAt_ok {rows : List Row} (h : ownOk rows = true) (t : Int) : rowOk (rowAt rows t) = true := by
 simp only [ownOk, Bool.and_eq_true] at h
 unfold rowAt
 rw [List.getD_eq_getElem?_getD]
 cases he : rows[t.toNat]? with
 | none => rfl
 | some r => exact List.all_eq_true.1 h.1 r (List.mem_of_getElem? he)
theorem ownOk_len {rows : List Row} (h : ownOk rows = true) : rows.length = 8 := by
 simp only [ownOk, Bool.and_eq_true, decide_eq_true_eq] at h; exact h.2
theorem entOk_iff {e : Ent} : entOk e = true ↔ (0 ≤ e.ticket ∧ e.ticket ≤ 7) ∧ (1 ≤ e.who ∧ e.who ≤ 5) ∧ ((e.kind = 1 ∧ 1 ≤ e.price ∧ e.price ≤ 50) ∨ (e.kind = 2 ∧ 1 ≤ e.price ∧ e.price ≤ 60) ∨ (e.kind = 3 ∧ e.price = 0)) := by
 unfold entOk
 rw [Bool.and_eq_true, Bool.and_eq_true, inR_iff, inR_iff, and_assoc]
 refine and_congr_right fun _ => and_congr_right fun _ => ?_
 split
 · rw [inR_iff]; omega
 · split
   · rw [inR_iff]; omega
   · simp only [Bool.and_eq_true, decide_eq_true_eq]; omega
theorem rowOk_iff {r : Row} : rowOk r = true ↔ (r.who = 0 ∧ r.face = 0 ∧ r.used = false) ∨ ((1 ≤ r.who ∧ r.who ≤ 5) ∧ 1 ≤ r.face ∧ r.face ≤ 50) := by
 unfold rowOk
 rw [Bool.or_eq_true, Bool.and_eq_true, Bool.and_eq_true, Bool.and_eq_true, inR_iff, inR_iff]
 simp [and_assoc]
theorem fitsRow_iff {r : Row} {e : Ent} (hk : e.kind = 1 ∨ e.kind = 2 ∨ e.kind = 3) : fitsRow r e = true ↔
   (e.kind = 1 ∧ r.who = 0) ∨ (e.kind = 2 ∧ r.who ≠ 0 ∧ r.who ≠ e.who ∧ r.used = false ∧ e.price ≤ entCap r.face) ∨ (e.kind = 3 ∧ r.who = e.who ∧ r.used = false) := by
 unfold fitsRow
 rcases hk with h | h | h <;> simp [h, and_assoc]
theorem ownFits_iff {rows : List Row} {e : Ent} : ownFits rows e = true ↔ ownOk rows = true ∧ entOk e = true ∧ fitsRow (rowAt rows e.ticket) e = true := by
 simp [ownFits, and_assoc]
theorem putRow_ok {r : Row} {e : Ent} (hr : rowOk r = true) (he : entOk e = true) (hf : fitsRow r e = true) : rowOk (putRow r e) = true := by
 have he' := entOk_iff.1 he
 have hk : e.kind = 1 ∨ e.kind = 2 ∨ e.kind = 3 := by omega
 rw [fitsRow_iff hk] at hf
 rw [rowOk_iff] at hr
 rw [rowOk_iff]
 unfold putRow
 rcases hk with h | h | h <;> simp only [h] at hf he' ⊢ <;> simp <;> omega
theorem putRows_ok {rows : List Row} {e : Ent} (h : ownFits rows e = true) : ownOk (putRows rows e) = true := by
 rw [ownFits_iff] at h
 obtain ⟨h1, h2, h3⟩ := h
 have hr := putRow_ok (rowAt_ok h1 e.ticket) h2 h3
 have h8 := ownOk_len h1
 simp only [ownOk, Bool.and_eq_true, decide_eq_true_eq, putRows, List.length_set] at h1 ⊢
 refine ⟨?_, h8⟩
 rw [List.all_eq_true] at h1 ⊢
 intro x hx
 rcases List.mem_or_eq_of_mem_set hx with hx | rfl
 · exact h1.1 x hx
 · exact hr
theorem rows0_ok : ownOk rows0 = true := by decide
theorem foldFrom_ok : ∀ (es : List Ent) (rows r : List Row), foldFrom rows es = some r → ownOk rows = true → ownOk r = true
 | [], rows, r, h, h8 => by simp [foldFrom] at h; rw [← h]; exact h8
 | e :: es, rows, r, h, h8 => by
   rw [foldFrom] at h
   split at h
   · exact foldFrom_ok es _ r h (putRows_ok ‹_›)
   · cases h
theorem ownFold_some {es : List Ent} {rows : List Row} : ownFold es = some rows ↔ es.length ≤ 40 ∧ foldFrom rows0 es = some rows := by
 unfold ownFold
 split <;> simp [*]
theorem ownFold_ok {es : List Ent} {rows : List Row} (h : ownFold es = some rows) : ownOk rows = true := foldFrom_ok es _ _ (ownFold_some.1 h).2 rows0_ok
theorem foldFrom_append : ∀ (es fs : List Ent) (rows : List Row), foldFrom rows (es ++ fs) = (foldFrom rows es).bind fun r => foldFrom r fs
 | [], fs, rows => rfl
 | e :: es, fs, rows => by
   rw [List.cons_append, foldFrom, foldFrom]
   split
   · exact foldFrom_append es fs _
   · rfl
theorem ownFold_snoc {es : List Ent} {rows : List Row} {e : Ent} (h : ownFold es = some rows) (hl : es.length < 40) (hf : ownFits rows e = true) : ownFold (es ++ [e]) = some (putRows rows e) := by
 rw [ownFold_some] at h ⊢
 refine ⟨by simp; omega, ?_⟩
 rw [foldFrom_append, h.2]
 simp [foldFrom, hf]
theorem rowAt_put {rows : List Row} {e : Ent} {t : Int} (h8 : rows.length = 8) (he : 0 ≤ e.ticket ∧ e.ticket ≤ 7) (ht : 0 ≤ t) : rowAt (putRows rows e) t = if t = e.ticket then putRow (rowAt rows e.ticket) e else rowAt rows t := by
 unfold rowAt putRows
 rw [List.getD_eq_getElem?_getD, List.getElem?_set]
 by_cases h : t = e.ticket
 · subst h
   rw [if_pos rfl, if_pos rfl, if_pos (by omega)]
   rfl
 · rw [if_neg (by omega), if_neg h, List.getD_eq_getElem?_getD]
theorem wrap64_in {n : Int} (h : -9223372036854775808 ≤ n ∧ n ≤ 9223372036854775807) : wrap64 n = n := by unfold wrap64; omega
theorem monOk_iff {p : List Int} : monOk p = true ↔ p.length = 5 ∧ ∀ n ∈ p, 0 ≤ n ∧ n ≤ 100000 := by
 simp [monOk, List.all_eq_true, inR_iff]
theorem sum_bd : ∀ (p : List Int) (b : Int), 0 ≤ b → (∀ n ∈ p, 0 ≤ n ∧ n ≤ b) → 0 ≤ p.sum ∧ p.sum ≤ b * p.length
 | [], b, hb, h => by simp
 | x :: xs, b, hb, h => by
   have h1 := h x (List.mem_cons_self ..)
   have h2 := sum_bd xs b hb (fun n hn => h n (List.mem_cons_of_mem _ hn))
   have e : b * ((x :: xs).length : Int) = b * (xs.length : Int) + b := by rw [List.length_cons, Int.natCast_add, Int.mul_add]; simp
   rw [e, List.sum_cons]
   omega
theorem sumFrom_eq : ∀ (p : List Int) (s : Int), 0 ≤ s → s + 100000 * p.length ≤ 9223372036854775807 → (∀ n ∈ p, 0 ≤ n ∧ n ≤ 100000) → sumFrom s p = s + p.sum
 | [], s, _, _, _ => by simp [sumFrom]
 | x :: xs, s, h0, h1, h => by
   have hx := h x (List.mem_cons_self ..)
   have e : (100000 : Int) * ((x :: xs).length : Int) = 100000 * (xs.length : Int) + 100000 := by rw [List.length_cons, Int.natCast_add, Int.mul_add]; simp
   rw [e] at h1
   have := sumFrom_eq xs (s + x) (by omega) (by omega) (fun n hn => h n (List.mem_cons_of_mem _ hn))
   unfold sumFrom at this ⊢
   rw [List.foldl_cons, wrap64_in (by omega), this, List.sum_cons]
   omega
theorem monSum_eq {p : List Int} (h : monOk p = true) : monSum p = p.sum := by
 rw [monOk_iff] at h
 have := sumFrom_eq p 0 (by omega) (by rw [h.1]; decide) h.2
 rw [monSum, this]; omega
theorem monSum_bd {p : List Int} (h : monOk p = true) : 0 ≤ monSum p ∧ monSum p ≤ 500000 := by
 rw [monSum_eq h]
 rw [monOk_iff] at h
 have := sum_bd p 100000 (by omega) h.2
 rw [h.1] at this
 omega
theorem sum_set : ∀ (p : List Int) (k : Nat) (v : Int), k < p.length → (p.set k v).sum = p.sum - p.getD k 0 + v
 | [], k, v, h => by simp at h
 | x :: xs, 0, v, h => by simp; omega
 | x :: xs, k + 1, v, h => by
   have := sum_set xs k v (by simpa using h)
   simp only [List.set_cons_succ, List.sum_cons, this, List.getD_cons_succ]
   omega
theorem turnMay_iff {p : List Int} {who n : Int} : turnMay p who n = true ↔ monOk p = true ∧ (1 ≤ who ∧ who ≤ 5) ∧ (-100000 ≤ n ∧ n ≤ 100000) ∧ (0 ≤ purse p who + n ∧ purse p who + n ≤ 100000) := by
 simp [turnMay, inR_iff, and_assoc]
theorem turned_ok {p : List Int} {who n : Int} (h : turnMay p who n = true) : monOk (turned p who n) = true := by
 rw [turnMay_iff] at h
 obtain ⟨h1, h2, h3, h4⟩ := h
 rw [monOk_iff] at h1 ⊢
 refine ⟨by simp [turned, h1.1], fun x hx => ?_⟩
 rcases List.mem_or_eq_of_mem_set hx with hx | rfl
 · exact h1.2 x hx
 · exact h4
theorem turned_sum {p : List Int} {who n : Int} (h : turnMay p who n = true) : (turned p who n).sum = p.sum + n := by
 rw [turnMay_iff, monOk_iff] at h
 rw [turned, sum_set p _ _ (by omega)]
 unfold purse
 omega
theorem purse_turned {p : List Int} {who n u : Int} (h : turnMay p who n = true) (hu : 1 ≤ u) : purse (turned p who n) u = if u = who then purse p who + n else purse p u := by
 rw [turnMay_iff, monOk_iff] at h
 unfold turned purse
 rw [List.getD_eq_getElem?_getD, List.getElem?_set]
 by_cases hw : u = who
 · subst hw
   rw [if_pos rfl, if_pos rfl, if_pos (by omega)]
   rfl
 · rw [if_neg (by omega), if_neg hw, List.getD_eq_getElem?_getD]
theorem purse_bd {p : List Int} (h : monOk p = true) (who : Int) : 0 ≤ purse p who ∧ purse p who ≤ 100000 := by
 rw [monOk_iff] at h
 unfold purse
 rw [List.getD_eq_getElem?_getD]
 cases he : p[(who - 1).toNat]? with
 | none => simp
 | some x => exact h.2 x (List.mem_of_getElem? he)
theorem purse_le_sum {p : List Int} (h : monOk p = true) (who : Int) : purse p who ≤ p.sum := by
 rw [monOk_iff] at h
 have key : ∀ (l : List Int) (k : Nat), (∀ n ∈ l, 0 ≤ n) → l.getD k 0 ≤ l.sum := by
   intro l
   induction l with
   | nil => intro k _; simp
   | cons x xs ih =>
     intro k hl
     have h1 := hl x (List.mem_cons_self ..)
     have h2 : 0 ≤ xs.sum := by
       clear ih
       induction xs with
       | nil => simp
       | cons y ys ih2 =>
         have := hl y (by simp)
         have := ih2 (fun n hn => hl n (by
           rcases List.mem_cons.1 hn with rfl | hn
           · exact List.mem_cons_self ..
           · exact List.mem_cons_of_mem _ (List.mem_cons_of_mem _ hn)))
         rw [List.sum_cons]; omega
     cases k with
     | zero => simp only [List.getD_cons_zero, List.sum_cons]; omega
     | succ k =>
       have := ih k (fun n hn => hl n (List.mem_cons_of_mem _ hn))
       simp only [List.getD_cons_succ, List.sum_cons]; omega
 exact key p _ (fun n hn => (h.2 n hn).1)
theorem turnMay_in {p : List Int} {who n : Int} (h : monOk p = true) (hw : 1 ≤ who ∧ who ≤ 5) (hn : 0 ≤ n) (hs : p.sum + n ≤ 100000) : turnMay p who n = true := by
 rw [turnMay_iff]
 have h1 := purse_bd h who
 have h2 := purse_le_sum h who
 have h3 := sum_bd p 100000 (by omega) (monOk_iff.1 h).2
 exact ⟨h, hw, by omega, by omega⟩
theorem moveMay_iff {p : List Int} {a b n : Int} : moveMay p a b n = true ↔ (0 ≤ n ∧ n ≤ 100000) ∧ a ≠ b ∧ turnMay p a (-n) = true ∧ turnMay (turned p a (-n)) b n = true := by
 simp [moveMay, inR_iff, and_assoc]
end Go.Proofs.YtnnoiagommiapaaGreat.Sw
namespace Go.Proofs.YtnnoiagommiapaaGreat
open Go
section
variable {P : Program} {ops : Array Oper} {Q : Exit → Act → World → Prop} {md : Region.Mode} {S : World → Prop} {X : List Nat}
def GoesX (P : Program) (md : Region.Mode) (ops : Array Oper) (Q : Exit → Act → World → Prop) (S : World → Prop) (X : List Nat) : Nat → Array Bool → Act → World → Prop
 | 0 => fun l a w => Region.ready md ops l = [] ∧ Q .normal a w
 | n + 1 => fun l a w => (Region.ready md ops l = [] → Q .normal a w) ∧ ∀ i, i ∈ Region.ready md ops l → wpOp P ops Q i (fun b v => (X.contains i = false → S v) ∧ GoesX P md ops Q S X n (l.setIfInBounds i true) b v) a w
theorem GoesX.any : ∀ {n : Nat} {l : Array Bool} {a : Act} {w : World}, GoesX P md ops Q S X n l a w → wpAny P md ops Q n l a w
 | 0, _, _, _, h => h
 | _ + 1, _, _, _, h => ⟨h.1, fun i hi => wpOp_mono (fun _ _ k => GoesX.any k.2) (h.2 i hi)⟩
def lateX (md : Region.Mode) (ops : Array Oper) (X R : List Nat) (l : Array Bool) (i : Nat) : Bool :=
 (R.all fun x => !l.getD x true && (match ops[x]? with | some o => o.after.any (fun e => Region.binds md e && (e.on == i || R.contains e.on)) | none => false)) && X.all fun x => l.getD x true || R.contains x
theorem set_true {l : Array Bool} {x : Nat} : (l.setIfInBounds x true).getD x true = true := by
 by_cases hs : x < l.size
 · simp [Array.getD, hs]
 · simp [Array.getD, hs]
theorem lateX_not {R : List Nat} {l : Array Bool} {i j : Nat} (h : lateX md ops X R l i = true) (hi : l.getD i true = false) (hj : j ∈ Region.ready md ops l) : R.contains j = false := by
 cases hx : R.contains j with
 | false => rfl
 | true =>
   exfalso
   obtain ⟨jun, o, ho, hall⟩ := mem_ready.1 hj
   have hR := List.all_eq_true.1 (Bool.and_eq_true_iff.1 h).1
   have h1 := hR j (by simpa using hx)
   rw [ho, Bool.and_eq_true] at h1
   obtain ⟨e, he, hb⟩ := Array.any_eq_true'.1 h1.2
   rw [Bool.and_eq_true, Bool.or_eq_true, beq_iff_eq] at hb
   have h2 := hall e he hb.1
   have h3 : l.getD e.on true = false := by
     rcases hb.2 with hb | hb
     · rw [hb]; exact hi
     · have h4 := hR e.on (by simpa using hb)
       rw [Bool.and_eq_true, Bool.not_eq_true'] at h4
       exact h4.1
   by_cases hs : e.on < l.size
   · simp [Array.getD, hs] at h2 h3; rw [h2] at h3; cases h3
   · simp [Array.getD, hs] at h2
theorem lateX_X {R : List Nat} {l : Array Bool} {i j : Nat} (h : lateX md ops X R l i = true) (hi : l.getD i true = false) (hj : j ∈ Region.ready md ops l) : X.contains j = false := by
 have h1 := lateX_not h hi hj
 cases hx : X.contains j with
 | false => rfl
 | true =>
   have h2 := List.all_eq_true.1 (Bool.and_eq_true_iff.1 h).2 j (by simpa using hx)
   rw [h1, (mem_ready.1 hj).1] at h2
   cases h2
theorem lateX_more {R : List Nat} {l : Array Bool} {i j : Nat} (h : lateX md ops X R l i = true) (hj : R.contains j = false) : lateX md ops X R (l.setIfInBounds j true) i = true := by
 obtain ⟨h1, h2⟩ := Bool.and_eq_true_iff.1 h
 refine Bool.and_eq_true_iff.2 ⟨List.all_eq_true.2 fun x hx => ?_, List.all_eq_true.2 fun x hx => ?_⟩
 · have h3 := List.all_eq_true.1 h1 x hx
   have hjx : j ≠ x := by
     rintro rfl
     simp at hj
     exact hj hx
   rw [getD_set_ne true hjx]; exact h3
 · have h3 := List.all_eq_true.1 h2 x hx
   by_cases hjx : j = x
   · subst hjx
     rw [set_true]; rfl
   · rw [getD_set_ne true hjx]; exact h3
theorem free_more {l : Array Bool} {i j : Nat} (h : Region.free md ops l i = true) : Region.free md ops (l.setIfInBounds j true) i = true := by
 unfold Region.free at h ⊢
 cases hi : ops[i]? with
 | none => rw [hi] at h; exact h
 | some oi =>
   rw [hi] at h
   dsimp only at h ⊢
   rw [List.all_eq_true] at h ⊢
   intro x hx
   have h1 := h x hx
   by_cases hjx : j = x
   · subst hjx
     simp [set_true]
   · rw [getD_set_ne true hjx]; exact h1
theorem GoesX.first {T : World → Prop} {R : List Nat} {i : Nat} {oi : Oper} {v : Value} (hi : ops[i]? = some oi) (hsel : Region.noSelect ops = true)
   (hQ : ∀ c a w, Q (.panic c) (a.put oi.dst v) w → Q (.panic c) a w) : ∀ (n : Nat) (l : Array Bool) (a : Act) (w : World),
     ((X.contains i = true ∧ ∀ w, T w) ∨ (lateX md ops X R l i = true ∧ (∀ w, S w → T w) ∧ S w)) → Region.free md ops l i = true → i ∈ Region.ready md ops l → YieldsIf P ops T oi v a →
     GoesX P md ops Q S X n (l.setIfInBounds i true) (a.put oi.dst v) w → GoesX P md ops Q S X (n + 1) l a w := by
 have ns := Region.noSelect_spec hsel
 intro n
 induction n with
 | zero =>
   intro l a w hTS _ hr hy H
   refine ⟨fun h => absurd (h ▸ hr) (List.not_mem_nil), fun j hj => ?_⟩
   rcases Decidable.em (j = i) with rfl | hji
   · rcases hTS with ⟨h1, h2⟩ | ⟨h1, h2, h3⟩
     · exact hy.wpOp hi (h2 w) ⟨fun h => (by rw [h1] at h; cases h), H⟩
     · exact hy.wpOp hi (h2 w h3) ⟨fun _ => h3, H⟩
   · exact absurd (H.1 ▸ ready_mono hj hji) (List.not_mem_nil)
 | succ n ih =>
   intro l a w hTS hf hr hy H
   refine ⟨fun h => absurd (h ▸ hr) (List.not_mem_nil), fun j hj => ?_⟩
   rcases Decidable.em (j = i) with rfl | hji
   · rcases hTS with ⟨h1, h2⟩ | ⟨h1, h2, h3⟩
     · exact hy.wpOp hi (h2 w) ⟨fun h => (by rw [h1] at h; cases h), H⟩
     · exact hy.wpOp hi (h2 w h3) ⟨fun _ => h3, H⟩
   obtain ⟨jun, oj, hoj, hall⟩ := mem_ready.1 hj
   have iun := (mem_ready.1 hr).1
   have hno : ∀ e ∈ oj.after, Region.binds md e = true → e.on ≠ i := by
     rintro e he hb rfl
     have h1 := hall e he hb
     by_cases hs : e.on < l.size
     · simp [Array.getD, hs] at h1 iun; rw [h1] at iun; cases iun
     · simp [Array.getD, hs] at h1
   have key := wpOp_putIf hoj (Region.free_spec hi hf j oj hoj hji jun hno) (fun cs b => ns i oi cs b hi) (fun cs b => ns j oj cs b hoj) hQ hy (H.2 j (ready_mono hj hji))
   refine wpOp_mono (fun b u k => ⟨k.2.1, ?_⟩) key
   refine ih _ b u (hTS.imp id (fun h => ⟨lateX_more h.1 (lateX_not h.1 iun hj), h.2.1, k.2.1 (lateX_X h.1 iun hj)⟩)) (free_more hf) (ready_mono hr (Ne.symm hji)) k.1 ?_
   rw [Array.setIfInBounds_comm _ _ hji]
   exact k.2.2
theorem GoesX.take (i d : Nat) (R : List Nat) {v : Value} {oi : Oper} {n : Nat} {l : Array Bool} {a b : Act} {w : World} (hS : S w) (hi : ops[i]? = some oi := by rfl) (hd : oi.dst = some d := by rfl)
   (hs : Region.noSelect ops = true := by kernel_rfl) (hf : Region.free md ops l i = true := by kernel_rfl) (hr : (Region.ready md ops l).contains i = true := by kernel_rfl) (hl : lateX md ops X R l i = true := by kernel_rfl)
   (hw : Region.wanted oi (yielded ops a.tmps) = true := by rfl) (hy : ∀ w, S w → (execOp a.eval oi).run P w = .ok (.value v) w := by (intro w hSw; (try dsimp only at hSw); go_simp; (try with_reducible rfl)))
   (hQ : ∀ c a w, Q (.panic c) (a.put (some d) v) w → Q (.panic c) a w := by (exact (fun _ _ _ h => h))) (hb : a.put (some d) v = b := by (simp only [Act.put, List.setIfInBounds_toArray, List.set_cons_zero, List.set_cons_succ]; rfl))
   (h : GoesX P md ops Q S X n (l.setIfInBounds i true) b w) : GoesX P md ops Q S X (n + 1) l a w :=
 GoesX.first (T := S) hi hs (by rw [hd]; exact hQ) n l a w (.inr ⟨hl, fun _ h => h, hS⟩) hf (by simpa using hr) (.inl ⟨hw, hy⟩) (by rw [hd, hb]; exact h)
theorem GoesX.takeX (i d : Nat) {v : Value} {oi : Oper} {n : Nat} {l : Array Bool} {a b : Act} {w : World} (hi : ops[i]? = some oi := by rfl) (hd : oi.dst = some d := by rfl)
   (hs : Region.noSelect ops = true := by kernel_rfl) (hf : Region.free md ops l i = true := by kernel_rfl) (hr : (Region.ready md ops l).contains i = true := by kernel_rfl) (hx : X.contains i = true := by kernel_rfl)
   (hw : Region.wanted oi (yielded ops a.tmps) = true := by rfl) (hy : ∀ w, (execOp a.eval oi).run P w = .ok (.value v) w := by (intro w; go_simp; (try with_reducible rfl)))
   (hQ : ∀ c a w, Q (.panic c) (a.put (some d) v) w → Q (.panic c) a w := by (exact (fun _ _ _ h => h))) (hb : a.put (some d) v = b := by (simp only [Act.put, List.setIfInBounds_toArray, List.set_cons_zero, List.set_cons_succ]; rfl))
   (h : GoesX P md ops Q S X n (l.setIfInBounds i true) b w) : GoesX P md ops Q S X (n + 1) l a w :=
 GoesX.first (T := fun _ => True) (R := []) hi hs (by rw [hd]; exact hQ) n l a w (.inl ⟨hx, fun _ => trivial⟩) hf (by simpa using hr) (.inl ⟨hw, fun w _ => hy w⟩) (by rw [hd, hb]; exact h)
theorem GoesX.skip (i d : Nat) (R : List Nat) {oi : Oper} {n : Nat} {l : Array Bool} {a b : Act} {w : World} (hS : S w) (hi : ops[i]? = some oi := by rfl) (hd : oi.dst = some d := by rfl)
   (hs : Region.noSelect ops = true := by kernel_rfl) (hf : Region.free md ops l i = true := by kernel_rfl) (hr : (Region.ready md ops l).contains i = true := by kernel_rfl) (hl : lateX md ops X R l i = true := by kernel_rfl)
   (hw : Region.wanted oi (yielded ops a.tmps) = false := by rfl)
   (hQ : ∀ c a w, Q (.panic c) (a.put (some d) undef) w → Q (.panic c) a w := by (exact (fun _ _ _ h => h))) (hb : a.put (some d) undef = b := by (simp only [Act.put, List.setIfInBounds_toArray, List.set_cons_zero, List.set_cons_succ]; rfl))
   (h : GoesX P md ops Q S X n (l.setIfInBounds i true) b w) : GoesX P md ops Q S X (n + 1) l a w :=
 GoesX.first (T := S) hi hs (by rw [hd]; exact hQ) n l a w (.inr ⟨hl, fun _ h => h, hS⟩) hf (by simpa using hr) (.inr ⟨hw, rfl⟩) (by rw [hd, hb]; exact h)
def EachX (P : Program) (md : Region.Mode) (ops : Array Oper) (Q : Exit → Act → World → Prop) (S : World → Prop) (X : List Nat) (n : Nat) (l : Array Bool) (a : Act) (w : World) (rs : List Nat) : Prop :=
 ∀ i, i ∈ rs → wpOp P ops Q i (fun b v => (X.contains i = false → S v) ∧ GoesX P md ops Q S X n (l.setIfInBounds i true) b v) a w
theorem EachX.nil {n : Nat} {l : Array Bool} {a : Act} {w : World} : EachX P md ops Q S X n l a w [] := fun _ h => absurd h List.not_mem_nil
theorem EachX.put {n : Nat} {l : Array Bool} {a : Act} {w : World} {i : Nat} {o : Oper} {rs : List Nat} (ho : ops[i]? = some o) 
   (h : ∀ K : Act → World → Prop, Shut (∀ b v, (X.contains i = false → S v) → GoesX P md ops Q S X n (l.setIfInBounds i true) b v → K b v) → if Region.wanted o (yielded ops a.tmps) = true then Oper.wp P o a w K Q else K (a.put o.dst undef) w)
   (hs : EachX P md ops Q S X n l a w rs) : EachX P md ops Q S X n l a w (i :: rs) := fun j hj => by
 rcases List.mem_cons.1 hj with rfl | hj
 · exact wpOp_step ho (fun K hK => h K (fun b v h1 h2 => hK b v ⟨h1, h2⟩))
 · exact hs j hj
theorem EachX.cons {n : Nat} {l : Array Bool} {a : Act} {w : World} {i : Nat} {o : Oper} {rs : List Nat} (ho : ops[i]? = some o)
   (h : ∀ K : Act → World → Prop, Shut (∀ b v, S v → (S v → GoesX P md ops Q S X n (l.setIfInBounds i true) b v) → K b v) → if Region.wanted o (yielded ops a.tmps) = true then Oper.wp P o a w K Q else K (a.put o.dst undef) w)
   (hs : EachX P md ops Q S X n l a w rs) : EachX P md ops Q S X n l a w (i :: rs) :=
 EachX.put ho (fun K hK => h K (fun b v hS hG => hK b v (fun _ => hS) (hG hS))) hs
theorem EachX.last {n : Nat} {l : Array Bool} {a : Act} {w : World} {i : Nat} {o : Oper} {rs : List Nat} (ho : ops[i]? = some o) (hx : X.contains i = true)
   (h : ∀ K : Act → World → Prop, Shut (∀ b v, GoesX P md ops Q S X n (l.setIfInBounds i true) b v → K b v) → if Region.wanted o (yielded ops a.tmps) = true then Oper.wp P o a w K Q else K (a.put o.dst undef) w)
   (hs : EachX P md ops Q S X n l a w rs) : EachX P md ops Q S X n l a w (i :: rs) :=
 EachX.put ho (fun K hK => h K (fun b v hG => hK b v (fun h => by rw [hx] at h; cases h) hG)) hs
theorem GoesX.ready {rs : List Nat} {n : Nat} {l : Array Bool} {a : Act} {w : World} (hr : Region.ready md ops l = rs) (hne : rs ≠ []) (h : EachX P md ops Q S X n l a w rs) : GoesX P md ops Q S X (n + 1) l a w :=
 ⟨fun h0 => absurd (hr ▸ h0) hne, fun i hi => h i (hr ▸ hi)⟩
theorem GoesX.done {l : Array Bool} {a : Act} {w : World} (hr : Region.ready md ops l = []) (h : Q .normal a w) : ∀ n, GoesX P md ops Q S X n l a w
 | 0 => ⟨hr, h⟩
 | _ + 1 => ⟨fun _ => h, fun i hi => absurd (hr ▸ hi) List.not_mem_nil⟩
theorem GoesX.one (i : Nat) {o : Oper} {n : Nat} {l : Array Bool} {a : Act} {w : World} (hr : Region.ready md ops l = [i] := by kernel_rfl) (ho : ops[i]? = some o := by rfl)
   (h : ∀ K : Act → World → Prop, Shut (∀ b v, S v → (S v → GoesX P md ops Q S X n (l.setIfInBounds i true) b v) → K b v) → if Region.wanted o (yielded ops a.tmps) = true then Oper.wp P o a w K Q else K (a.put o.dst undef) w) : GoesX P md ops Q S X (n + 1) l a w :=
 GoesX.ready hr (by simp) (EachX.cons ho h EachX.nil)
theorem GoesX.oneX (i : Nat) {o : Oper} {n : Nat} {l : Array Bool} {a : Act} {w : World} (hr : Region.ready md ops l = [i] := by kernel_rfl) (ho : ops[i]? = some o := by rfl) (hx : X.contains i = true := by kernel_rfl)
   (h : ∀ K : Act → World → Prop, Shut (∀ b v, GoesX P md ops Q S X n (l.setIfInBounds i true) b v → K b v) → if Region.wanted o (yielded ops a.tmps) = true then Oper.wp P o a w K Q else K (a.put o.dst undef) w) : GoesX P md ops Q S X (n + 1) l a w :=
 GoesX.ready hr (by simp) (EachX.last ho hx h EachX.nil)
theorem outS {n : Nat} {l : Array Bool} {a b : Act} {w : World} {K : Act → World → Prop} (hK : Shut (∀ b v, S v → (S v → GoesX P md ops Q S X n l b v) → K b v)) (hS : S w)
   (hb : a = b := by first | rfl | (simp only [Act.put, List.getElem_toArray, List.getElem_cons_succ, List.getElem_cons_zero, List.setIfInBounds_toArray, List.set_cons_zero, List.set_cons_succ]; rfl)) (h : S w → GoesX P md ops Q S X n l b w) : K a w := by
 subst hb; exact hK.out _ _ hS h
theorem outX {n : Nat} {l : Array Bool} {a b : Act} {w : World} {K : Act → World → Prop} (hK : Shut (∀ b v, GoesX P md ops Q S X n l b v → K b v))
   (hb : a = b := by first | rfl | (simp only [Act.put, List.getElem_toArray, List.getElem_cons_succ, List.getElem_cons_zero, List.setIfInBounds_toArray, List.set_cons_zero, List.set_cons_succ]; rfl)) (h : GoesX P md ops Q S X n l b w) : K a w := by
 subst hb; exact hK.out _ _ h
theorem wp_regionX (X : List Nat) {id : Nat} {a : Act} {w : World} (hS : S w.drew)
   (h : S w.drew → GoesX P .any ops Q S X ops.size (Array.replicate ops.size false) a w.drew) (hm : P.follows .mixedOrders = true := by kernel_rfl) : (Code.region id ops true).wp P Q a w := wp_region_any hm (GoesX.any (h hS))
end
theorem hdH {p : Prop} (h : p := by ((try dsimp only); (first | with_reducible assumption | with_reducible exact Held.start _ | with_reducible exact Held.of (by assumption) | with_reducible exact Held.ex (by assumption) (by assumption) | ((repeat (first | with_reducible refine Held.set ?_ (by simp only [zq_]; omega) | with_reducible refine Held.alloc ?_ _ | with_reducible refine Held.drew ?_)); (first | with_reducible assumption | with_reducible exact Held.refl _ | with_reducible exact Held.of (by assumption) | with_reducible exact Held.ex (by assumption) (by assumption))) | exact Held.of (by exact ext_)))) : p := h
theorem hdR {p : Prop} (h : p := by ((try dsimp only); (first | assumption | exact HeldR.of (by assumption) | exact HeldR.start _ _ | exact HeldR.ch (by assumption) (by assumption) | exact HeldR.ex (by assumption) (by assumption) | exact HeldR.alloc (by assumption) _ | exact HeldR.set (by assumption) (by simp only [zq_]; omega)))) : p := h
end Go.Proofs.YtnnoiagommiapaaGreat
