/-
  Texts joined: Plain1.
-/
import Derived.Test.YtdcjadgflenejaaPk5
namespace Go.Proofs.Ytdcjadgflenejaa.Sw
set_option maxRecDepth 100000
set_option linter.unusedSimpArgs false
set_option linter.unusedVariables false
open Go.RowKit (wrap64)

theorem inR_iff {n a b : Int} : inR n a b = true ↔ a ≤ n ∧ n ≤ b := by simp [inR]
theorem inR_no {n a b : Int} : inR n a b = false ↔ n < a ∨ b < n := by simp [inR]; omega

/-! ### rows -/
theorem rowAt_ok {rows : List Row} (h : ownOk rows = true) (t : Int) : rowOk (rowAt rows t) = true := by
  simp only [ownOk, Bool.and_eq_true] at h
  unfold rowAt
  rw [List.getD_eq_getElem?_getD]
  cases he : rows[t.toNat]? with
  | none => rfl
  | some r => exact List.all_eq_true.1 h.1 r (List.mem_of_getElem? he)
theorem ownOk_len {rows : List Row} (h : ownOk rows = true) : rows.length = 8 := by
  simp only [ownOk, Bool.and_eq_true, decide_eq_true_eq] at h; exact h.2
theorem entOk_iff {e : Ent} : entOk e = true ↔ (0 ≤ e.ticket ∧ e.ticket ≤ 7) ∧ (1 ≤ e.who ∧ e.who ≤ 5) ∧ ((e.kind = 1 ∧ 1 ≤ e.price ∧ e.price ≤ 50) ∨ (e.kind = 2 ∧ 1 ≤ e.price ∧ e.price ≤ 60) ∨ (e.kind = 3 ∧ e.price = 0)) := by
  unfold entOk
  rw [Bool.and_eq_true, Bool.and_eq_true, inR_iff, inR_iff, and_assoc]
  refine and_congr_right fun _ => and_congr_right fun _ => ?_
  split
  · rw [inR_iff]; omega
  · split
    · rw [inR_iff]; omega
    · simp only [Bool.and_eq_true, decide_eq_true_eq]; omega
theorem rowOk_iff {r : Row} : rowOk r = true ↔ (r.who = 0 ∧ r.face = 0 ∧ r.used = false) ∨ ((1 ≤ r.who ∧ r.who ≤ 5) ∧ 1 ≤ r.face ∧ r.face ≤ 50) := by
  unfold rowOk
  rw [Bool.or_eq_true, Bool.and_eq_true, Bool.and_eq_true, Bool.and_eq_true, inR_iff, inR_iff]
  simp [and_assoc]
theorem fitsRow_iff {r : Row} {e : Ent} (hk : e.kind = 1 ∨ e.kind = 2 ∨ e.kind = 3) : fitsRow r e = true ↔
    (e.kind = 1 ∧ r.who = 0) ∨ (e.kind = 2 ∧ r.who ≠ 0 ∧ r.who ≠ e.who ∧ r.used = false ∧ e.price ≤ entCap r.face) ∨ (e.kind = 3 ∧ r.who = e.who ∧ r.used = false) := by
  unfold fitsRow
  rcases hk with h | h | h <;> simp [h, and_assoc]
theorem ownFits_iff {rows : List Row} {e : Ent} : ownFits rows e = true ↔ ownOk rows = true ∧ entOk e = true ∧ fitsRow (rowAt rows e.ticket) e = true := by
  simp [ownFits, and_assoc]
theorem putRow_ok {r : Row} {e : Ent} (hr : rowOk r = true) (he : entOk e = true) (hf : fitsRow r e = true) : rowOk (putRow r e) = true := by
  have he' := entOk_iff.1 he
  have hk : e.kind = 1 ∨ e.kind = 2 ∨ e.kind = 3 := by omega
  rw [fitsRow_iff hk] at hf
  rw [rowOk_iff] at hr
  rw [rowOk_iff]
  unfold putRow
  rcases hk with h | h | h <;> simp only [h] at hf he' ⊢ <;> simp <;> omega
theorem putRows_ok {rows : List Row} {e : Ent} (h : ownFits rows e = true) : ownOk (putRows rows e) = true := by
  rw [ownFits_iff] at h
  obtain ⟨h1, h2, h3⟩ := h
  have hr := putRow_ok (rowAt_ok h1 e.ticket) h2 h3
  have h8 := ownOk_len h1
  simp only [ownOk, Bool.and_eq_true, decide_eq_true_eq, putRows, List.length_set] at h1 ⊢
  refine ⟨?_, h8⟩
  rw [List.all_eq_true] at h1 ⊢
  intro x hx
  rcases List.mem_or_eq_of_mem_set hx with hx | rfl
  · exact h1.1 x hx
  · exact hr
theorem rows0_ok : ownOk rows0 = true := by decide
theorem foldFrom_ok : ∀ (es : List Ent) (rows r : List Row), foldFrom rows es = some r → ownOk rows = true → ownOk r = true
  | [], rows, r, h, h8 => by simp [foldFrom] at h; rw [← h]; exact h8
  | e :: es, rows, r, h, h8 => by
    rw [foldFrom] at h
    split at h
    · exact foldFrom_ok es _ r h (putRows_ok ‹_›)
    · cases h
theorem ownFold_some {es : List Ent} {rows : List Row} : ownFold es = some rows ↔ es.length ≤ 40 ∧ foldFrom rows0 es = some rows := by
  unfold ownFold
  split <;> simp [*]
theorem ownFold_ok {es : List Ent} {rows : List Row} (h : ownFold es = some rows) : ownOk rows = true := foldFrom_ok es _ _ (ownFold_some.1 h).2 rows0_ok
theorem foldFrom_append : ∀ (es fs : List Ent) (rows : List Row), foldFrom rows (es ++ fs) = (foldFrom rows es).bind fun r => foldFrom r fs
  | [], fs, rows => rfl
  | e :: es, fs, rows => by
    rw [List.cons_append, foldFrom, foldFrom]
    split
    · exact foldFrom_append es fs _
    · rfl
theorem ownFold_snoc {es : List Ent} {rows : List Row} {e : Ent} (h : ownFold es = some rows) (hl : es.length < 40) (hf : ownFits rows e = true) : ownFold (es ++ [e]) = some (putRows rows e) := by
  rw [ownFold_some] at h ⊢
  refine ⟨by simp; omega, ?_⟩
  rw [foldFrom_append, h.2]
  simp [foldFrom, hf]
theorem ownFold_take {es : List Ent} {rows : List Row} (h : ownFold es = some rows) (k : Nat) : ∃ r, ownFold (es.take k) = some r := by
  rw [ownFold_some] at h
  obtain ⟨h1, h2⟩ := h
  rw [← List.take_append_drop k es, foldFrom_append] at h2
  cases hh : foldFrom rows0 (es.take k) with
  | none => rw [hh] at h2; cases h2
  | some r => exact ⟨r, ownFold_some.2 ⟨by rw [List.length_take]; omega, hh⟩⟩
theorem rowAt_put {rows : List Row} {e : Ent} {t : Int} (h8 : rows.length = 8) (he : 0 ≤ e.ticket ∧ e.ticket ≤ 7) (ht : 0 ≤ t) : rowAt (putRows rows e) t = if t = e.ticket then putRow (rowAt rows e.ticket) e else rowAt rows t := by
  unfold rowAt putRows
  rw [List.getD_eq_getElem?_getD, List.getElem?_set]
  by_cases h : t = e.ticket
  · subst h
    rw [if_pos rfl, if_pos rfl, if_pos (by omega)]
    rfl
  · rw [if_neg (by omega), if_neg h, List.getD_eq_getElem?_getD]

/-! ### money -/
theorem wrap64_in {n : Int} (h : -9223372036854775808 ≤ n ∧ n ≤ 9223372036854775807) : wrap64 n = n := by unfold wrap64; omega
theorem monOk_iff {p : List Int} : monOk p = true ↔ p.length = 5 ∧ ∀ n ∈ p, 0 ≤ n ∧ n ≤ 100000 := by
  simp [monOk, List.all_eq_true, inR_iff]
theorem sum_bd : ∀ (p : List Int) (b : Int), 0 ≤ b → (∀ n ∈ p, 0 ≤ n ∧ n ≤ b) → 0 ≤ p.sum ∧ p.sum ≤ b * p.length
  | [], b, hb, h => by simp
  | x :: xs, b, hb, h => by
    have h1 := h x (List.mem_cons_self ..)
    have h2 := sum_bd xs b hb (fun n hn => h n (List.mem_cons_of_mem _ hn))
    have e : b * ((x :: xs).length : Int) = b * (xs.length : Int) + b := by rw [List.length_cons, Int.natCast_add, Int.mul_add]; simp
    rw [e, List.sum_cons]
    omega
theorem sumFrom_eq : ∀ (p : List Int) (s : Int), 0 ≤ s → s + 100000 * p.length ≤ 9223372036854775807 → (∀ n ∈ p, 0 ≤ n ∧ n ≤ 100000) → sumFrom s p = s + p.sum
  | [], s, _, _, _ => by simp [sumFrom]
  | x :: xs, s, h0, h1, h => by
    have hx := h x (List.mem_cons_self ..)
    have e : (100000 : Int) * ((x :: xs).length : Int) = 100000 * (xs.length : Int) + 100000 := by rw [List.length_cons, Int.natCast_add, Int.mul_add]; simp
    rw [e] at h1
    have := sumFrom_eq xs (s + x) (by omega) (by omega) (fun n hn => h n (List.mem_cons_of_mem _ hn))
    unfold sumFrom at this ⊢
    rw [List.foldl_cons, wrap64_in (by omega), this, List.sum_cons]
    omega
theorem monSum_eq {p : List Int} (h : monOk p = true) : monSum p = p.sum := by
  rw [monOk_iff] at h
  have := sumFrom_eq p 0 (by omega) (by rw [h.1]; decide) h.2
  rw [monSum, this]; omega
theorem monSum_bd {p : List Int} (h : monOk p = true) : 0 ≤ monSum p ∧ monSum p ≤ 500000 := by
  rw [monSum_eq h]
  rw [monOk_iff] at h
  have := sum_bd p 100000 (by omega) h.2
  rw [h.1] at this
  omega
theorem sum_set : ∀ (p : List Int) (k : Nat) (v : Int), k < p.length → (p.set k v).sum = p.sum - p.getD k 0 + v
  | [], k, v, h => by simp at h
  | x :: xs, 0, v, h => by simp; omega
  | x :: xs, k + 1, v, h => by
    have := sum_set xs k v (by simpa using h)
    simp only [List.set_cons_succ, List.sum_cons, this, List.getD_cons_succ]
    omega
theorem turnMay_iff {p : List Int} {who n : Int} : turnMay p who n = true ↔ monOk p = true ∧ (1 ≤ who ∧ who ≤ 5) ∧ (-100000 ≤ n ∧ n ≤ 100000) ∧ (0 ≤ purse p who + n ∧ purse p who + n ≤ 100000) := by
  simp [turnMay, inR_iff, and_assoc]
theorem turned_ok {p : List Int} {who n : Int} (h : turnMay p who n = true) : monOk (turned p who n) = true := by
  rw [turnMay_iff] at h
  obtain ⟨h1, h2, h3, h4⟩ := h
  rw [monOk_iff] at h1 ⊢
  refine ⟨by simp [turned, h1.1], fun x hx => ?_⟩
  rcases List.mem_or_eq_of_mem_set hx with hx | rfl
  · exact h1.2 x hx
  · exact h4
theorem turned_sum {p : List Int} {who n : Int} (h : turnMay p who n = true) : (turned p who n).sum = p.sum + n := by
  rw [turnMay_iff, monOk_iff] at h
  rw [turned, sum_set p _ _ (by omega)]
  unfold purse
  omega
theorem purse_turned {p : List Int} {who n u : Int} (h : turnMay p who n = true) (hu : 1 ≤ u) : purse (turned p who n) u = if u = who then purse p who + n else purse p u := by
  rw [turnMay_iff, monOk_iff] at h
  unfold turned purse
  rw [List.getD_eq_getElem?_getD, List.getElem?_set]
  by_cases hw : u = who
  · subst hw
    rw [if_pos rfl, if_pos rfl, if_pos (by omega)]
    rfl
  · rw [if_neg (by omega), if_neg hw, List.getD_eq_getElem?_getD]
theorem purse_bd {p : List Int} (h : monOk p = true) (who : Int) : 0 ≤ purse p who ∧ purse p who ≤ 100000 := by
  rw [monOk_iff] at h
  unfold purse
  rw [List.getD_eq_getElem?_getD]
  cases he : p[(who - 1).toNat]? with
  | none => simp
  | some x => exact h.2 x (List.mem_of_getElem? he)
/-- One purse is no more than all together. -/
theorem purse_le_sum {p : List Int} (h : monOk p = true) (who : Int) : purse p who ≤ p.sum := by
  rw [monOk_iff] at h
  have key : ∀ (l : List Int) (k : Nat), (∀ n ∈ l, 0 ≤ n) → l.getD k 0 ≤ l.sum := by
    intro l
    induction l with
    | nil => intro k _; simp
    | cons x xs ih =>
      intro k hl
      have h1 := hl x (List.mem_cons_self ..)
      have h2 : 0 ≤ xs.sum := by
        clear ih
        induction xs with
        | nil => simp
        | cons y ys ih2 =>
          have := hl y (by simp)
          have := ih2 (fun n hn => hl n (by
            rcases List.mem_cons.1 hn with rfl | hn
            · exact List.mem_cons_self ..
            · exact List.mem_cons_of_mem _ (List.mem_cons_of_mem _ hn)))
          rw [List.sum_cons]; omega
      cases k with
      | zero => simp only [List.getD_cons_zero, List.sum_cons]; omega
      | succ k =>
        have := ih k (fun n hn => hl n (List.mem_cons_of_mem _ hn))
        simp only [List.getD_cons_succ, List.sum_cons]; omega
  exact key p _ (fun n hn => (h.2 n hn).1)
theorem turnMay_in {p : List Int} {who n : Int} (h : monOk p = true) (hw : 1 ≤ who ∧ who ≤ 5) (hn : 0 ≤ n) (hs : p.sum + n ≤ 100000) : turnMay p who n = true := by
  rw [turnMay_iff]
  have h1 := purse_bd h who
  have h2 := purse_le_sum h who
  have h3 := sum_bd p 100000 (by omega) (monOk_iff.1 h).2
  exact ⟨h, hw, by omega, by omega⟩
theorem moveMay_iff {p : List Int} {a b n : Int} : moveMay p a b n = true ↔ (0 ≤ n ∧ n ≤ 100000) ∧ a ≠ b ∧ turnMay p a (-n) = true ∧ turnMay (turned p a (-n)) b n = true := by
  simp [moveMay, inR_iff, and_assoc]
end Go.Proofs.Ytdcjadgflenejaa.Sw

