/-
  Texts joined: CopyK.
-/
import Derived.Test.YtdcjadgflenejaaPk10
import Derived.Laws.IdiomCopy
import Derived.ArgAppend
import Derived.Lib.SliceRun
namespace Go.Proofs.Ytdcjadgflenejaa
set_option maxRecDepth 100000
set_option linter.unusedSimpArgs false
set_option linter.unusedVariables false
open Go.RowKit Go

/-- copy: all is read first. -/
theorem run_copy_cellsK {P : Program} (w : World) (dT sT ty elem : TypeId) (sz b o dLen dCap : Nat) (a : Addr) (sLen sCap : Nat) (cs : List Value)
    (hu : P.underlying dT = some (.slice elem)) (hs : (P.info? elem).map (·.size) = some sz) (hn : cs.length = Nat.min sLen dLen * sz)
    (hsrc : ∀ j v, cs[j]? = some v → w.cell? (a.add j) = some v) (hc : ∀ j, j < cs.length → (w.cell? ⟨b, o + j, none⟩).isSome = true) (hf : ∀ j, j < cs.length → w.frozen? ⟨b, o + j, none⟩ = false) (h1 : ∀ v ∈ cs, v.oneCell' = true) :
    (Builtin.copy_ #[dT, sT] ty #[.slice (some ⟨b, o, none⟩) dLen dCap, .slice (some a) sLen sCap]).run P w = .ok (goInt (Nat.min sLen dLen)) (w.setCells b o cs) := by
  have hl := run_loadCells_list (P := P) w a cs hsrc
  have hst := run_storeCells_cells (P := P) b o cs 0 w (by simpa using hc) (by simpa using hf) h1
  cases hq : P.info? elem with
  | none => simp [hq] at hs
  | some i =>
    have hi : i.size = sz := by simpa [hq] using hs
    simp [Builtin.copy_, run_underlying hu, Builtin.lenOf, Builtin.firstCells, sizeOf, typeInfo, hq, hi, ← hn, hl, hst]
/-- clear: the elements hold zero values. -/
theorem run_clear_cellsK {P : Program} (w : World) (t e ty : TypeId) (z : Value) (zs : List Value) (ht : P.underlying t = some (.slice e)) (hv : ∀ w, (zeroValue e).run P w = .ok z w) (b o n c : Nat) (hn : 0 < n) (hzc : (Builtin.zeroCells z.cells n).toList = zs) (h1 : ∀ v ∈ zs, v.oneCell' = true)
    (hc : ∀ j, j < zs.length → (w.cell? ⟨b, o + j, none⟩).isSome = true) (hf : ∀ j, j < zs.length → w.frozen? ⟨b, o + j, none⟩ = false) :
    (Builtin.clear_ #[t] ty #[.slice (some ⟨b, o, none⟩) n c]).run P w = .ok (.tuple #[]) (w.setCells b o zs) := by
  have hst := run_storeCells_cells (P := P) b o zs 0 w (by simpa using hc) (by simpa using hf) h1
  simp only [Nat.add_zero] at hst
  obtain ⟨m, rfl⟩ : ∃ m, n = m + 1 := ⟨n - 1, by omega⟩
  simp [Builtin.clear_, run_underlying ht, hv, hzc, hst]

/-- A block some of whose cells are set. -/
theorem heap_setCells_same {e : TypeId} {fz : Nat × Nat} {g : Nat} : ∀ (vs : List Value) (o : Nat) (w : World) (cur : Array Value), w.heap[g]? = some (.cells cur e fz) → o + vs.length ≤ cur.size →
    ∃ cur', (w.setCells g o vs).heap[g]? = some (.cells cur' e fz) ∧ cur'.size = cur.size ∧ cur'.toList = cur.toList.take o ++ vs ++ cur.toList.drop (o + vs.length)
  | [], o, w, cur, h, hl => ⟨cur, h, rfl, by simp⟩
  | v :: r, o, w, cur, h, hl => by
    simp only [List.length_cons] at hl
    have h1 : (w.setCell ⟨g, o, none⟩ v).heap[g]? = some (.cells (cur.setIfInBounds o v) e fz) := by simp [World.setCell, Array.getElem?_modify, h]
    obtain ⟨c2, h2, h3, h4⟩ := heap_setCells_same r (o + 1) _ _ h1 (by simp; omega)
    refine ⟨c2, h2, by simpa using h3, ?_⟩
    rw [h4, Array.toList_setIfInBounds]
    have ho : o < cur.toList.length := by simp; omega
    rw [List.drop_set_of_lt (by omega), List.take_set, List.take_add_one, List.getElem?_eq_getElem ho, List.set_append_right _ _ (by simp; omega)]
    simp [Nat.min_eq_left (Nat.le_of_lt (by simpa using ho)), Nat.add_assoc, Nat.add_comm 1]
theorem size_setCells (g : Nat) : ∀ (vs : List Value) (o : Nat) (w : World), (w.setCells g o vs).heap.size = w.heap.size
  | [], _, _ => rfl
  | v :: r, o, w => by rw [World.setCells, size_setCells g r]; simp [World.setCell]
theorem heap_setCells_ne {g i : Nat} (h : i ≠ g) : ∀ (vs : List Value) (o : Nat) (w : World), (w.setCells g o vs).heap[i]? = w.heap[i]?
  | [], _, _ => rfl
  | v :: r, o, w => by rw [World.setCells, heap_setCells_ne h r]; exact Below.heap_setCell _ _ _ _ h
theorem Ch.setCells {S : Nat → Prop} {a : World} {g : Nat} (hg : S g ∨ a.heap.size ≤ g) : ∀ (vs : List Value) (o : Nat) (w : World), Ch S a w → Ch S a (w.setCells g o vs)
  | [], _, _, h => h
  | v :: r, o, w, h => by rw [World.setCells]; exact Ch.setCells hg r (o + 1) _ (cS h hg v)
/-- The cells of an owned slice written over: it is another list. -/
theorem Ow.over {α : Type} {enc : α → List Value} {sz : Nat} {e : TypeId} {w : World} {lo c n m o g : Nat} {xs ys : List α} {vs : List Value} (h : Ow enc sz e w lo (some ⟨g, 0, none⟩) c n xs) (hm : m ≤ c) (hl : o + vs.length ≤ c * sz) (hy : m = ys.length)
    (he : ∀ cur : List Value, cur.length = c * sz → cur.take (n * sz) = xs.flatMap enc → (cur.take o ++ vs ++ cur.drop (o + vs.length)).take (m * sz) = ys.flatMap enc) (hyl : (ys.flatMap enc).length = m * sz) :
    Ow enc sz e (w.setCells g o vs) lo (some ⟨g, 0, none⟩) c m ys := by
  rcases h.form with ⟨hA, _⟩ | ⟨g', cur, hA, hlo, hlt, hh, hn, hc, hs, ht⟩
  · cases hA
  · cases hA
    obtain ⟨cur', h1, h2, h3⟩ := heap_setCells_same vs o w cur hh (by omega)
    exact ⟨hy, hyl, .inr ⟨g, c, cur', rfl, hlo, h1, hm, hc, by omega, by rw [h3]; exact he cur.toList (by simpa using hs) ht⟩⟩
/-- All of its block's cells are there, and none is frozen. -/
theorem Ow.there {α : Type} {enc : α → List Value} {sz : Nat} {e : TypeId} {w : World} {lo c n g : Nat} {xs : List α} (h : Ow enc sz e w lo (some ⟨g, 0, none⟩) c n xs) : (∀ j, j < c * sz → (w.cell? ⟨g, j, none⟩).isSome = true) ∧ (∀ j, w.frozen? ⟨g, j, none⟩ = false) := by
  rcases h.form with ⟨hA, _⟩ | ⟨g', cur, hA, hlo, hlt, hh, hn, hc, hs, ht⟩
  · cases hA
  · cases hA
    exact ⟨fun j hj => by simp [World.cell?, hh, show j < cur.size by omega], fun j => by simp [World.frozen?, hh]⟩
/-- A shorter front of an owned slice. -/
theorem Ow.front {α : Type} {enc : α → List Value} {sz : Nat} {e : TypeId} {w : World} {lo c n k : Nat} {A : Option Addr} {xs : List α} (h : Ow enc sz e w lo A c n xs) (hsz : ∀ x, (enc x).length = sz) (hk : k ≤ n) : Ow enc sz e w lo A c k (xs.take k) := by
  have hlen : ∀ l : List α, (l.flatMap enc).length = l.length * sz := by
    intro l
    induction l with
    | nil => simp
    | cons x l ih => simp only [List.flatMap_cons, List.length_append, hsz, ih, List.length_cons, Nat.succ_mul]; omega
  have hkl : (xs.take k).length = k := by rw [List.length_take, ← h.1]; omega
  have hcut : ∀ (l : List α) (k : Nat), (l.flatMap enc).take (k * sz) = (l.take k).flatMap enc := by
    intro l
    induction l with
    | nil => intro k; simp
    | cons x l ih =>
      intro k
      cases k with
      | zero => simp
      | succ k =>
        rw [List.take_succ_cons, List.flatMap_cons, List.flatMap_cons, List.take_append, hsz, Nat.succ_mul, List.take_of_length_le (by rw [hsz]; omega), Nat.add_sub_cancel, ih]
  refine ⟨hkl.symm, by rw [hlen, hkl], ?_⟩
  rcases h.2.2 with ⟨hv, h0⟩ | ⟨g, cap, cur, hv, hb, hh, hn, hm, hs, ht⟩
  · injection hv with h1 h2 h3
    subst h1 h3
    obtain rfl : k = 0 := by omega
    exact .inl ⟨rfl, rfl⟩
  · injection hv with h1 h2 h3
    subst h1 h3
    refine .inr ⟨g, c, cur, rfl, hb, hh, by omega, hm, hs, ?_⟩
    rw [← hcut, ← ht, List.take_take, Nat.min_eq_left (Nat.mul_le_mul_right _ hk)]
theorem flat_take {α : Type} {enc : α → List Value} {sz : Nat} (hsz : ∀ x, (enc x).length = sz) : ∀ (l : List α) (k : Nat), (l.flatMap enc).take (k * sz) = (l.take k).flatMap enc
  | [], k => by simp
  | x :: l, 0 => by simp
  | x :: l, k + 1 => by
    rw [List.take_succ_cons, List.flatMap_cons, List.flatMap_cons, List.take_append, hsz, Nat.succ_mul, List.take_of_length_le (by rw [hsz]; omega), Nat.add_sub_cancel, flat_take hsz l k]
theorem flat_drop {α : Type} {enc : α → List Value} {sz : Nat} (hsz : ∀ x, (enc x).length = sz) : ∀ (l : List α) (k : Nat), (l.flatMap enc).drop (k * sz) = (l.drop k).flatMap enc
  | [], k => by simp
  | x :: l, 0 => by simp
  | x :: l, k + 1 => by
    rw [List.drop_succ_cons, List.flatMap_cons, List.drop_append, hsz, Nat.succ_mul, List.drop_of_length_le (by rw [hsz]; omega), Nat.add_sub_cancel, flat_drop hsz l k, List.nil_append]
/-- An append where there is room: in place. -/
theorem wp_appR {P : Program} {w : World} {o : Oper} {a : Act} {Kx : Act → World → Prop} {Q : Exit → Act → World → Prop} {α : Type} {enc : α → List Value} {sz bytes : Nat} {t e : TypeId} {s x : Operand}
    {lo lo2 c n m d g : Nat} {ad : Addr} {xs ys : List α}
    (hel : ElemOk P t e sz bytes) (h1 : ∀ x, ∀ u ∈ enc x, u.oneCell' = true) (hsz : ∀ x, (enc x).length = sz)
    (ho : o.op = .call { callee := .builtin .append, args := #[s, x], argTypes := #[t, t] }) (hs : a.eval s = .slice (some ⟨g, 0, none⟩) n c) (hx : a.eval x = .slice (some ad) m d)
    (hown : Ow enc sz e w lo (some ⟨g, 0, none⟩) c n xs) (hnew : Rs enc sz w lo2 (some ad) d m ys) (hroom : n + m ≤ c)
    (K : ∀ w', Ow enc sz e w' lo (some ⟨g, 0, none⟩) c (n + m) (xs ++ ys) → Ch (· = g) w w' → Kx (a.put o.dst (.slice (some ⟨g, 0, none⟩) (n + m) c)) w') :
    o.wp P a w Kx Q := by
  obtain ⟨i, z, hi, hz, hsz', hby, hzs⟩ := hel.info
  have hmem : ∀ u ∈ ys.flatMap enc, u.oneCell' = true := by
    intro u hu
    obtain ⟨y, _, hy⟩ := List.mem_flatMap.1 hu
    exact h1 y u hy
  have hlen : (ys.flatMap enc).length = m * sz := hnew.2.len
  have e1 : (n + m) * sz = n * sz + m * sz := Nat.add_mul ..
  have e2 : (n + m) * sz ≤ c * sz := Nat.mul_le_mul_right _ hroom
  have hth := hown.there
  have hrun := run_append_room_cells (P := P) (w := w) t o.type e i hel.sl hi g 0 n c ad m d (ys.flatMap enc) (by rw [hsz', hlen])
    (fun j u hu => by
      have hm : 0 < m := by
        have h1 := (List.getElem?_eq_some_iff.1 hu).1
        rw [hlen] at h1
        rcases Nat.eq_zero_or_pos m with h0 | h0
        · subst h0; simp at h1
        · exact h0
      obtain ⟨h1', _, _, h4⟩ := hnew.2.cells _ rfl hm
      obtain ⟨g, off, spot⟩ := ad
      dsimp only at h1' h4
      subst h1'
      rw [Addr.add_lit]; exact h4 j u hu) hmem hroom (fun j hj => by rw [hsz', Nat.zero_add]; exact hth.1 _ (by omega)) (fun j hj => hth.2 _)
  rw [hsz', Nat.zero_add] at hrun
  have hyl : ((xs ++ ys).flatMap enc).length = (n + m) * sz := by rw [List.flatMap_append, List.length_append, hown.2.1, hlen, e1]
  have hov := hown.over (m := n + m) (ys := xs ++ ys) (vs := ys.flatMap enc) (o := n * sz) hroom (by omega) (by rw [List.length_append, hown.1, hnew.1]) (fun cur hc ht => by
    have hl : (cur.take (n * sz)).length = n * sz := by rw [List.length_take, hc]; omega
    rw [ht, List.flatMap_append, List.take_append_of_le_length (by rw [List.length_append, hown.2.1, hlen]; omega), List.take_of_length_le (by rw [List.length_append, hown.2.1, hlen]; omega)]) hyl
  unfold Oper.wp execOp
  simp only [ho, resolve, invoke, builtin, Sem.run_bind, Sem.run_pure, Result.andThen_ok, List.map_toArray, List.map_cons, List.map_nil, hs, hx, hrun]
  exact K _ hov (Ch.setCells (S := (· = g)) (.inl rfl) _ _ _ (Ch.refl _ _))
theorem step_appR {P : Program} {w : World} {ops : Array Oper} {o : Oper} {a : Act} {Kx : Act → World → Prop} {Q : Exit → Act → World → Prop} {E : Prop} {α : Type} {enc : α → List Value} {sz bytes : Nat} {t e : TypeId} {s x : Operand}
    {lo lo2 c n m d g : Nat} {ad : Addr} {xs ys : List α}
    (hel : ElemOk P t e sz bytes) (h1 : ∀ x, ∀ u ∈ enc x, u.oneCell' = true) (hsz : ∀ x, (enc x).length = sz) (hgd : o.guard = none)
    (ho : o.op = .call { callee := .builtin .append, args := #[s, x], argTypes := #[t, t] }) (hs : a.eval s = .slice (some ⟨g, 0, none⟩) n c) (hx : a.eval x = .slice (some ad) m d)
    (hown : Ow enc sz e w lo (some ⟨g, 0, none⟩) c n xs) (hnew : Rs enc sz w lo2 (some ad) d m ys) (hroom : n + m ≤ c)
    (K : ∀ w', Ow enc sz e w' lo (some ⟨g, 0, none⟩) c (n + m) (xs ++ ys) → Ch (· = g) w w' → Kx (a.put o.dst (.slice (some ⟨g, 0, none⟩) (n + m) c)) w') :
    if Region.wanted o (yielded ops a.tmps) = true then o.wp P a w Kx Q else E := by
  rw [if_pos (by simp [Region.wanted, hgd])]
  exact wp_appR hel h1 hsz ho hs hx hown hnew hroom K
/-- copy, clear, append: where their run is known. -/
theorem wp_copyK {P : Program} {w : World} {o : Oper} {a : Act} {Kx : Act → World → Prop} {Q : Exit → Act → World → Prop} {d s : Operand} {t t' : TypeId} {v u v' : Value} {w' : World}
    (ho : o.op = .call { callee := .builtin .copy, args := #[d, s], argTypes := #[t, t'] }) (hd : a.eval d = v) (hs : a.eval s = u) (hr : (Builtin.copy_ #[t, t'] o.type #[v, u]).run P w = .ok v' w') (K : Kx (a.put o.dst v') w') : o.wp P a w Kx Q := by
  unfold Oper.wp execOp
  simp only [ho, resolve, invoke, builtin, Sem.run_bind, Sem.run_pure, Result.andThen_ok, List.map_toArray, List.map_cons, List.map_nil, hd, hs, hr]
  exact K
theorem wpList_copyK {P : Program} {w : World} {ops : Array Oper} {rest : List Oper} {o : Oper} {a : Act} {Q : Exit → Act → World → Prop} {d s : Operand} {t t' : TypeId} {v u v' : Value} {w' : World} (hgd : o.guard = none)
    (ho : o.op = .call { callee := .builtin .copy, args := #[d, s], argTypes := #[t, t'] }) (hd : a.eval d = v) (hs : a.eval s = u) (hr : (Builtin.copy_ #[t, t'] o.type #[v, u]).run P w = .ok v' w') (K : wpList P ops Q rest (a.put o.dst v') w') : wpList P ops Q (o :: rest) a w :=
  wpList_plain hgd fun _ hK => wp_copyK ho hd hs hr (hK _ _ K)
theorem step_copyK {P : Program} {w : World} {ops : Array Oper} {o : Oper} {a : Act} {Kx : Act → World → Prop} {Q : Exit → Act → World → Prop} {E : Prop} {d s : Operand} {t t' : TypeId} {v u v' : Value} {w' : World} (hgd : o.guard = none)
    (ho : o.op = .call { callee := .builtin .copy, args := #[d, s], argTypes := #[t, t'] }) (hd : a.eval d = v) (hs : a.eval s = u) (hr : (Builtin.copy_ #[t, t'] o.type #[v, u]).run P w = .ok v' w') (K : Kx (a.put o.dst v') w') :
    if Region.wanted o (yielded ops a.tmps) = true then o.wp P a w Kx Q else E := by
  rw [if_pos (by simp [Region.wanted, hgd])]
  exact wp_copyK ho hd hs hr K
theorem wpList_clearK {P : Program} {w : World} {ops : Array Oper} {rest : List Oper} {o : Oper} {a : Act} {Q : Exit → Act → World → Prop} {s : Operand} {t : TypeId} {u v' : Value} {w' : World} (hgd : o.guard = none)
    (ho : o.op = .call { callee := .builtin .clear, args := #[s], argTypes := #[t] }) (hs : a.eval s = u) (hr : (Builtin.clear_ #[t] o.type #[u]).run P w = .ok v' w') (K : wpList P ops Q rest (a.put o.dst v') w') : wpList P ops Q (o :: rest) a w :=
  wpList_plain hgd fun _ hK => by
    unfold Oper.wp execOp
    simp only [ho, resolve, invoke, builtin, Sem.run_bind, Sem.run_pure, Result.andThen_ok, List.map_toArray, List.map_cons, List.map_nil, hs, hr]
    exact hK _ _ K
end Go.Proofs.Ytdcjadgflenejaa

