/- Texts joined: CopyK, MktA, Draw2. -/
import Derived.Test.YtnnoiagommiapaaGreatPz10
import Derived.Laws.IdiomCopy
import Derived.ArgAppend
import Derived.Lib.SliceRun
import Derived.Test.YtnnoiagommiapaaGreatPz12
import Derived.Test.YtnnoiagommiapaaGreatPz11
set_option maxRecDepth 100000
set_option linter.unusedSimpArgs false
set_option linter.unusedVariables false
namespace Go.Proofs.YtnnoiagommiapaaGreat
open Go.RowKit Go
theorem run_copy_cellsK {P : Program} (w : World) (dT sT ty elem : TypeId) (sz b o dLen dCap : Nat) (a : Addr) (sLen sCap : Nat) (cs : List Value)
   (hu : P.underlying dT = some (.slice elem)) (hs : (P.info? elem).map (·.size) = some sz) (hn : cs.length = Nat.min sLen dLen * sz)
   (hsrc : ∀ j v, cs[j]? = some v → w.cell? (a.add j) = some v) (hc : ∀ j, j < cs.length → (w.cell? ⟨b, o + j, none⟩).isSome = true) (hf : ∀ j, j < cs.length → w.frozen? ⟨b, o + j, none⟩ = false) (h1 : ∀ v ∈ cs, v.oneCell' = true) :
   (Builtin.copy_ #[dT, sT] ty #[.slice (some ⟨b, o, none⟩) dLen dCap, .slice (some a) sLen sCap]).run P w = .ok (goInt (Nat.min sLen dLen)) (w.setCells b o cs) := by
 have hl := run_loadCells_list (P := P) w a cs hsrc
 have hst := run_storeCells_cells (P := P) b o cs 0 w (by simpa using hc) (by simpa using hf) h1
 cases hq : P.info? elem with
 | none => simp [hq] at hs
 | some i =>
   have hi : i.size = sz := by simpa [hq] using hs
   simp [Builtin.copy_, run_underlying hu, Builtin.lenOf, Builtin.firstCells, sizeOf, typeInfo, hq, hi, ← hn, hl, hst]
theorem run_clear_cellsK {P : Program} (w : World) (t e ty : TypeId) (z : Value) (zs : List Value) (ht : P.underlying t = some (.slice e)) (hv : ∀ w, (zeroValue e).run P w = .ok z w) (b o n c : Nat) (hn : 0 < n) (hzc : (Builtin.zeroCells z.cells n).toList = zs) (h1 : ∀ v ∈ zs, v.oneCell' = true)
   (hc : ∀ j, j < zs.length → (w.cell? ⟨b, o + j, none⟩).isSome = true) (hf : ∀ j, j < zs.length → w.frozen? ⟨b, o + j, none⟩ = false) :
   (Builtin.clear_ #[t] ty #[.slice (some ⟨b, o, none⟩) n c]).run P w = .ok (.tuple #[]) (w.setCells b o zs) := by
 have hst := run_storeCells_cells (P := P) b o zs 0 w (by simpa using hc) (by simpa using hf) h1
 simp only [Nat.add_zero] at hst
 obtain ⟨m, rfl⟩ : ∃ m, n = m + 1 := ⟨n - 1, by omega⟩
 simp [Builtin.clear_, run_underlying ht, hv, hzc, hst]
theorem heap_setCells_same {e : TypeId} {fz : Nat × Nat} {g : Nat} : ∀ (vs : List Value) (o : Nat) (w : World) (cur : Array Value), w.heap[g]? = some (.cells cur e fz) → o + vs.length ≤ cur.size →
   ∃ cur', (w.setCells g o vs).heap[g]? = some (.cells cur' e fz) ∧ cur'.size = cur.size ∧ cur'.toList = cur.toList.take o ++ vs ++ cur.toList.drop (o + vs.length)
 | [], o, w, cur, h, hl => ⟨cur, h, rfl, by simp⟩
 | v :: r, o, w, cur, h, hl => by
   simp only [List.length_cons] at hl
   have h1 : (w.setCell ⟨g, o, none⟩ v).heap[g]? = some (.cells (cur.setIfInBounds o v) e fz) := by simp [World.setCell, Array.getElem?_modify, h]
   obtain ⟨c2, h2, h3, h4⟩ := heap_setCells_same r (o + 1) _ _ h1 (by simp; omega)
   refine ⟨c2, h2, by simpa using h3, ?_⟩
   rw [h4, Array.toList_setIfInBounds]
   have ho : o < cur.toList.length := by simp; omega
   rw [List.drop_set_of_lt (by omega), List.take_set, List.take_add_one, List.getElem?_eq_getElem ho, List.set_append_right _ _ (by simp; omega)]
   simp [Nat.min_eq_left (Nat.le_of_lt (by simpa using ho)), Nat.add_assoc, Nat.add_comm 1]
theorem heap_setCells_ne {g i : Nat} (h : i ≠ g) : ∀ (vs : List Value) (o : Nat) (w : World), (w.setCells g o vs).heap[i]? = w.heap[i]?
 | [], _, _ => rfl
 | v :: r, o, w => by rw [World.setCells, heap_setCells_ne h r]; exact Below.heap_setCell _ _ _ _ h
theorem Ch.setCells {S : Nat → Prop} {a : World} {g : Nat} (hg : S g ∨ a.heap.size ≤ g) : ∀ (vs : List Value) (o : Nat) (w : World), Ch S a w → Ch S a (w.setCells g o vs)
 | [], _, _, h => h
 | v :: r, o, w, h => by rw [World.setCells]; exact Ch.setCells hg r (o + 1) _ (cS h hg v)
theorem Ow.over {α : Type} {enc : α → List Value} {sz : Nat} {e : TypeId} {w : World} {lo c n m o g : Nat} {xs ys : List α} {vs : List Value} (h : Ow enc sz e w lo (some ⟨g, 0, none⟩) c n xs) (hm : m ≤ c) (hl : o + vs.length ≤ c * sz) (hy : m = ys.length)
   (he : ∀ cur : List Value, cur.length = c * sz → cur.take (n * sz) = xs.flatMap enc → (cur.take o ++ vs ++ cur.drop (o + vs.length)).take (m * sz) = ys.flatMap enc) (hyl : (ys.flatMap enc).length = m * sz) :
   Ow enc sz e (w.setCells g o vs) lo (some ⟨g, 0, none⟩) c m ys := by
 rcases h.form with ⟨hA, _⟩ | ⟨g', cur, hA, hlo, hlt, hh, hn, hc, hs, ht⟩
 · cases hA
 · cases hA
   obtain ⟨cur', h1, h2, h3⟩ := heap_setCells_same vs o w cur hh (by omega)
   exact ⟨hy, hyl, .inr ⟨g, c, cur', rfl, hlo, h1, hm, hc, by omega, by rw [h3]; exact he cur.toList (by simpa using hs) ht⟩⟩
theorem Ow.there {α : Type} {enc : α → List Value} {sz : Nat} {e : TypeId} {w : World} {lo c n g : Nat} {xs : List α} (h : Ow enc sz e w lo (some ⟨g, 0, none⟩) c n xs) : (∀ j, j < c * sz → (w.cell? ⟨g, j, none⟩).isSome = true) ∧ (∀ j, w.frozen? ⟨g, j, none⟩ = false) := by
 rcases h.form with ⟨hA, _⟩ | ⟨g', cur, hA, hlo, hlt, hh, hn, hc, hs, ht⟩
 · cases hA
 · cases hA
   exact ⟨fun j hj => by simp [World.cell?, hh, show j < cur.size by omega], fun j => by simp [World.frozen?, hh]⟩
theorem Ow.front {α : Type} {enc : α → List Value} {sz : Nat} {e : TypeId} {w : World} {lo c n k : Nat} {A : Option Addr} {xs : List α} (h : Ow enc sz e w lo A c n xs) (hsz : ∀ x, (enc x).length = sz) (hk : k ≤ n) : Ow enc sz e w lo A c k (xs.take k) := by
 have hlen : ∀ l : List α, (l.flatMap enc).length = l.length * sz := by
   intro l
   induction l with
   | nil => simp
   | cons x l ih => simp only [List.flatMap_cons, List.length_append, hsz, ih, List.length_cons, Nat.succ_mul]; omega
 have hkl : (xs.take k).length = k := by rw [List.length_take, ← h.1]; omega
 have hcut : ∀ (l : List α) (k : Nat), (l.flatMap enc).take (k * sz) = (l.take k).flatMap enc := by
   intro l
   induction l with
   | nil => intro k; simp
   | cons x l ih =>
     intro k
     cases k with
     | zero => simp
     | succ k =>
       rw [List.take_succ_cons, List.flatMap_cons, List.flatMap_cons, List.take_append, hsz, Nat.succ_mul, List.take_of_length_le (by rw [hsz]; omega), Nat.add_sub_cancel, ih]
 refine ⟨hkl.symm, by rw [hlen, hkl], ?_⟩
 rcases h.2.2 with ⟨hv, h0⟩ | ⟨g, cap, cur, hv, hb, hh, hn, hm, hs, ht⟩
 · injection hv with h1 h2 h3
   subst h1 h3
   obtain rfl : k = 0 := by omega
   exact .inl ⟨rfl, rfl⟩
 · injection hv with h1 h2 h3
   subst h1 h3
   refine .inr ⟨g, c, cur, rfl, hb, hh, by omega, hm, hs, ?_⟩
   rw [← hcut, ← ht, List.take_take, Nat.min_eq_left (Nat.mul_le_mul_right _ hk)]
theorem flat_take {α : Type} {enc : α → List Value} {sz : Nat} (hsz : ∀ x, (enc x).length = sz) : ∀ (l : List α) (k : Nat), (l.flatMap enc).take (k * sz) = (l.take k).flatMap enc
 | [], k => by simp
 | x :: l, 0 => by simp
 | x :: l, k + 1 => by
   rw [List.take_succ_cons, List.flatMap_cons, List.flatMap_cons, List.take_append, hsz, Nat.succ_mul, List.take_of_length_le (by rw [hsz]; omega), Nat.add_sub_cancel, flat_take hsz l k]
theorem flat_drop {α : Type} {enc : α → List Value} {sz : Nat} (hsz : ∀ x, (enc x).length = sz) : ∀ (l : List α) (k : Nat), (l.flatMap enc).drop (k * sz) = (l.drop k).flatMap enc
 | [], k => by simp
 | x :: l, 0 => by simp
 | x :: l, k + 1 => by
   rw [List.drop_succ_cons, List.flatMap_cons, List.drop_append, hsz, Nat.succ_mul, List.drop_of_length_le (by rw [hsz]; omega), Nat.add_sub_cancel, flat_drop hsz l k, List.nil_append]
theorem wp_appR {P : Program} {w : World} {o : Oper} {a : Act} {Kx : Act → World → Prop} {Q : Exit → Act → World → Prop} {α : Type} {enc : α → List Value} {sz bytes : Nat} {t e : TypeId} {s x : Operand}
   {lo lo2 c n m d g : Nat} {ad : Addr} {xs ys : List α}
   (hel : ElemOk P t e sz bytes) (h1 : ∀ x, ∀ u ∈ enc x, u.oneCell' = true) (hsz : ∀ x, (enc x).length = sz)
   (ho : o.op = .call { callee := .builtin .append, args := #[s, x], argTypes := #[t, t] }) (hs : a.eval s = .slice (some ⟨g, 0, none⟩) n c) (hx : a.eval x = .slice (some ad) m d)
   (hown : Ow enc sz e w lo (some ⟨g, 0, none⟩) c n xs) (hnew : Rs enc sz w lo2 (some ad) d m ys) (hroom : n + m ≤ c)
   (K : ∀ w', Ow enc sz e w' lo (some ⟨g, 0, none⟩) c (n + m) (xs ++ ys) → Ch (· = g) w w' → Kx (a.put o.dst (.slice (some ⟨g, 0, none⟩) (n + m) c)) w') :
   o.wp P a w Kx Q := by
 obtain ⟨i, z, hi, hz, hsz', hby, hzs⟩ := hel.info
 have hmem : ∀ u ∈ ys.flatMap enc, u.oneCell' = true := by
   intro u hu
   obtain ⟨y, _, hy⟩ := List.mem_flatMap.1 hu
   exact h1 y u hy
 have hlen : (ys.flatMap enc).length = m * sz := hnew.2.len
 have e1 : (n + m) * sz = n * sz + m * sz := Nat.add_mul ..
 have e2 : (n + m) * sz ≤ c * sz := Nat.mul_le_mul_right _ hroom
 have hth := hown.there
 have hrun := run_append_room_cells (P := P) (w := w) t o.type e i hel.sl hi g 0 n c ad m d (ys.flatMap enc) (by rw [hsz', hlen])
   (fun j u hu => by
     have hm : 0 < m := by
       have h1 := (List.getElem?_eq_some_iff.1 hu).1
       rw [hlen] at h1
       rcases Nat.eq_zero_or_pos m with h0 | h0
       · subst h0; simp at h1
       · exact h0
     obtain ⟨h1', _, _, h4⟩ := hnew.2.cells _ rfl hm
     obtain ⟨g, off, spot⟩ := ad
     dsimp only at h1' h4
     subst h1'
     rw [Addr.add_lit]; exact h4 j u hu) hmem hroom (fun j hj => by rw [hsz', Nat.zero_add]; exact hth.1 _ (by omega)) (fun j hj => hth.2 _)
 rw [hsz', Nat.zero_add] at hrun
 have hyl : ((xs ++ ys).flatMap enc).length = (n + m) * sz := by rw [List.flatMap_append, List.length_append, hown.2.1, hlen, e1]
 have hov := hown.over (m := n + m) (ys := xs ++ ys) (vs := ys.flatMap enc) (o := n * sz) hroom (by omega) (by rw [List.length_append, hown.1, hnew.1]) (fun cur hc ht => by
   have hl : (cur.take (n * sz)).length = n * sz := by rw [List.length_take, hc]; omega
   rw [ht, List.flatMap_append, List.take_append_of_le_length (by rw [List.length_append, hown.2.1, hlen]; omega), List.take_of_length_le (by rw [List.length_append, hown.2.1, hlen]; omega)]) hyl
 unfold Oper.wp execOp
 simp only [ho, resolve, invoke, builtin, Sem.run_bind, Sem.run_pure, Result.andThen_ok, List.map_toArray, List.map_cons, List.map_nil, hs, hx, hrun]
 exact K _ hov (Ch.setCells (S := (· = g)) (.inl rfl) _ _ _ (Ch.refl _ _))
theorem step_appR {P : Program} {w : World} {ops : Array Oper} {o : Oper} {a : Act} {Kx : Act → World → Prop} {Q : Exit → Act → World → Prop} {E : Prop} {α : Type} {enc : α → List Value} {sz bytes : Nat} {t e : TypeId} {s x : Operand}
   {lo lo2 c n m d g : Nat} {ad : Addr} {xs ys : List α}
   (hel : ElemOk P t e sz bytes) (h1 : ∀ x, ∀ u ∈ enc x, u.oneCell' = true) (hsz : ∀ x, (enc x).length = sz) (hgd : o.guard = none)
   (ho : o.op = .call { callee := .builtin .append, args := #[s, x], argTypes := #[t, t] }) (hs : a.eval s = .slice (some ⟨g, 0, none⟩) n c) (hx : a.eval x = .slice (some ad) m d)
   (hown : Ow enc sz e w lo (some ⟨g, 0, none⟩) c n xs) (hnew : Rs enc sz w lo2 (some ad) d m ys) (hroom : n + m ≤ c)
   (K : ∀ w', Ow enc sz e w' lo (some ⟨g, 0, none⟩) c (n + m) (xs ++ ys) → Ch (· = g) w w' → Kx (a.put o.dst (.slice (some ⟨g, 0, none⟩) (n + m) c)) w') :
   if Region.wanted o (yielded ops a.tmps) = true then o.wp P a w Kx Q else E := by
 rw [if_pos (by simp [Region.wanted, hgd])]
 exact wp_appR hel h1 hsz ho hs hx hown hnew hroom K
theorem wp_copyK {P : Program} {w : World} {o : Oper} {a : Act} {Kx : Act → World → Prop} {Q : Exit → Act → World → Prop} {d s : Operand} {t t' : TypeId} {v u v' : Value} {w' : World}
   (ho : o.op = .call { callee := .builtin .copy, args := #[d, s], argTypes := #[t, t'] }) (hd : a.eval d = v) (hs : a.eval s = u) (hr : (Builtin.copy_ #[t, t'] o.type #[v, u]).run P w = .ok v' w') (K : Kx (a.put o.dst v') w') : o.wp P a w Kx Q := by
 unfold Oper.wp execOp
 simp only [ho, resolve, invoke, builtin, Sem.run_bind, Sem.run_pure, Result.andThen_ok, List.map_toArray, List.map_cons, List.map_nil, hd, hs, hr]
 exact K
theorem step_copyK {P : Program} {w : World} {ops : Array Oper} {o : Oper} {a : Act} {Kx : Act → World → Prop} {Q : Exit → Act → World → Prop} {E : Prop} {d s : Operand} {t t' : TypeId} {v u v' : Value} {w' : World} (hgd : o.guard = none)
   (ho : o.op = .call { callee := .builtin .copy, args := #[d, s], argTypes := #[t, t'] }) (hd : a.eval d = v) (hs : a.eval s = u) (hr : (Builtin.copy_ #[t, t'] o.type #[v, u]).run P w = .ok v' w') (K : Kx (a.put o.dst v') w') :
   if Region.wanted o (yielded ops a.tmps) = true then o.wp P a w Kx Q else E := by
 rw [if_pos (by simp [Region.wanted, hgd])]
 exact wp_copyK ho hd hs hr K
set_option maxHeartbeats 8000000
theorem sReqOk_c (r : Sw.Req) (w : World) : Calls Tryz.prog 52 #[.agg #[.int .i64 r.user, .int .i64 r.n, .int .i64 r.kind, .int .i64 r.ticket, .int .i64 r.who, .int .i64 r.price]] w fun E w' => E = .returned (.bool (Sw.reqOk r)) ∧ Ex w w' := by
 cases g1 : Sw.inR r.user 1 5
 case false => go_enter Tryz.func52, Tryz.ntmps52; go_wp2_with (first | (go_at_call 99; refine (l1In_c _ _ _ _).mono ?_; rintro E w' ⟨rfl, rfl⟩)); go_ret; exact ⟨ret_b (by simp [Sw.reqOk, g1]), ext_⟩
 cases g2 : Sw.inR r.n 1 99999
 case false => go_enter Tryz.func52, Tryz.ntmps52; go_wp2_with (first | (go_at_call 99; refine (l1In_c _ _ _ _).mono ?_; rintro E w' ⟨rfl, rfl⟩)); go_ret; exact ⟨ret_b (by simp [Sw.reqOk, g2]), ext_⟩
 cases g3 : Sw.inR r.kind 1 6
 case false => go_enter Tryz.func52, Tryz.ntmps52; go_wp2_with (first | (go_at_call 99; refine (l1In_c _ _ _ _).mono ?_; rintro E w' ⟨rfl, rfl⟩)); go_ret; exact ⟨ret_b (by simp [Sw.reqOk, g3]), ext_⟩
 cases g4 : Sw.inR r.ticket 0 7
 case false => go_enter Tryz.func52, Tryz.ntmps52; go_wp2_with (first | (go_at_call 99; refine (l1In_c _ _ _ _).mono ?_; rintro E w' ⟨rfl, rfl⟩)); go_ret; exact ⟨ret_b (by simp [Sw.reqOk, g4]), ext_⟩
 have e : Sw.reqOk r = (if r.kind = 1 then Sw.inR r.who 1 5 && Sw.inR r.price 1 50 else decide (r.who = 0) && (if r.kind = 2 then Sw.inR r.price 1 999 else decide (r.price = 0))) := by simp [Sw.reqOk, g1, g2, g3, g4]
 have He := Lib.hid e; clear e
 by_cases k1 : r.kind = 1
 · have k1' : (r.kind == 1) = true := by simp [k1]
   have K1 := Lib.hid k1; clear k1
   cases g5 : Sw.inR r.who 1 5
   all_goals
     go_enter Tryz.func52, Tryz.ntmps52
     go_wp2_with (first | (go_at_call 99; refine (l1In_c _ _ _ _).mono ?_; rintro E w' ⟨rfl, rfl⟩))
     go_ret
     exact ⟨ret_b (by rw [He.out, if_pos K1.out]; simp [g5]), ext_⟩
 have k1' : (r.kind == 1) = false := by simp [k1]
 cases g5 : (r.who == 0)
 case false =>
   go_enter Tryz.func52, Tryz.ntmps52
   go_wp2_with (first | (go_at_call 99; refine (l1In_c _ _ _ _).mono ?_; rintro E w' ⟨rfl, rfl⟩))
   go_ret
   exact ⟨ret_b (by rw [He.out, if_neg k1]; rw [← beqI, g5]; rfl), ext_⟩
 by_cases k2 : r.kind = 2
 · have k2' : (r.kind == 2) = true := by simp [k2]
   have k2'' : (r.kind != 2) = false := by simp [k2]
   have K2 := Lib.hid k2; clear k2
   cases g6 : Sw.inR r.price 1 999
   all_goals
     go_enter Tryz.func52, Tryz.ntmps52
     go_wp2_with (first | (go_at_call 99; refine (l1In_c _ _ _ _).mono ?_; rintro E w' ⟨rfl, rfl⟩))
     go_ret
     exact ⟨ret_b (by rw [He.out, if_neg k1, if_pos K2.out]; rw [← beqI, g5, g6]; rfl), ext_⟩
 have k2' : (r.kind == 2) = false := by simp [k2]
 have k2'' : (r.kind != 2) = true := by simp [k2]
 cases g6 : (r.price == 0)
 all_goals
   go_enter Tryz.func52, Tryz.ntmps52
   go_wp2_with (first | (go_at_call 99; refine (l1In_c _ _ _ _).mono ?_; rintro E w' ⟨rfl, rfl⟩))
   go_ret
   exact ⟨ret_b (by rw [He.out, if_neg k1, if_neg k2]; rw [← beqI, ← beqI, g5, g6]; rfl), ext_⟩
def buyerOk (clock : Int) (d : Sw.Deal) : Bool := if d.buyer = 0 then decide (d.due = 0) else Sw.inR d.buyer 1 5 && decide (d.buyer ≠ d.seller) && Sw.inR d.due clock (clock + 5)
theorem dealOk_b {clock : Int} {rows : List Sw.Row} {d : Sw.Deal} {r : Sw.Row} (ho : Sw.ownOk rows = true) (hr : Sw.rowAt rows d.ticket = r) :
   Sw.dealOk clock rows d = (Sw.inR d.ticket 0 7 && decide (r.who = d.seller) && decide (d.seller ≠ 0) && !r.used && Sw.inR d.price 1 (Sw.entCap r.face) && buyerOk clock d) := by
 have h1 := Sw.rowAt_ok ho d.ticket
 rw [hr, Sw.rowOk_iff] at h1
 unfold Sw.dealOk
 rw [hr]
 unfold buyerOk
 by_cases hs : r.who = d.seller
 · by_cases h0 : d.seller = 0
   · have : Sw.inR d.seller 1 5 = false := by rw [h0]; rfl
     have this0 : Sw.inR 0 1 5 = false := rfl
     simp [this0, h0]
   · have : Sw.inR d.seller 1 5 = true := Sw.inR_iff.2 (by omega)
     simp [this, h0]
 · simp [hs]
theorem dealsOk_cons {clock : Int} {rows : List Sw.Row} {p : Int} {d : Sw.Deal} {ds : List Sw.Deal} : Sw.dealsOk clock rows p (d :: ds) = (Sw.dealOk clock rows d && decide (p < d.ticket) && Sw.dealsOk clock rows d.ticket ds) := rfl
def LastAt (xs : List Sw.Deal) (k : Nat) (p : Int) : Prop := k = 0 ∧ p = -1 ∨ ∃ j y, k = j + 1 ∧ xs[j]? = some y ∧ y.ticket = p ∧ 0 ≤ p
def mktGate (m : Sw.Mkt) : Bool := (Sw.ownFold m.log).isSome && Sw.monOk m.purses && decide (m.deals.length ≤ 8) && Sw.inR m.clock 0 99999 && decide (m.nums.length = 5) && decide (m.said.length = 5)
theorem mktOk_parts (m : Sw.Mkt) : Sw.mktOk m = (mktGate m && Sw.dealsOk m.clock (Sw.mktRows m) (-1) m.deals && Sw.numsOk m.nums m.said && decide (Sw.monSum m.purses + Sw.mktHeld m ≤ 100000)) := by
 simp [Sw.mktOk, mktGate]
theorem numsOk_at {ns ss : List Int} {k : Nat} {a b : Int} (ha : ns.drop k = a :: ns.drop (k + 1)) (hb : ss.drop k = b :: ss.drop (k + 1)) : Sw.numsOk (ns.drop k) (ss.drop k) = (Sw.numOk a b && Sw.numsOk (ns.drop (k + 1)) (ss.drop (k + 1))) := by rw [ha, hb]; rfl
set_option maxHeartbeats 2000000
def Sep (A B : Option Addr) : Prop := ∀ a b, A = some a → B = some b → a.block ≠ b.block
theorem entCap_bd (f : Int) : 0 ≤ Sw.entCap f ∧ Sw.entCap f ≤ 60 := by
 unfold Sw.entCap
 split
 · rename_i h
   simp only [Sw.inR, Bool.and_eq_true, decide_eq_true_eq] at h
   omega
 · omega
structure RdCh (w0 w : World) (rb P : Nat) : Prop where
 rd : Rdp w rb P
 ch : Ch (· = rb) w0 w
theorem OI_put {w : World} {lo c n g k : Nat} {A : Option Addr} {xs : List Int} (h : OwI w lo A c n xs) (hA : A = some ⟨g, 0, none⟩) (hk : k < xs.length) (u : Int) : OwI (w.setCell ⟨g, k, none⟩ (.int .i64 u)) lo A c n (xs.set k u) := by
 have := Ow.set h (fun _ => rfl) (j := 0) (u := .int .i64 u) (y := u) hA (List.getElem?_eq_getElem hk) (by omega) rfl
 rwa [Nat.mul_one] at this
theorem pickN_c (rb P N : Nat) (n : Int) (w : World) (hr : Rdp w rb P) (hP : P ≤ 1000000) (hn : n = (N : Int)) (h1 : 1 ≤ N) : Calls Tryz.prog 92 #[.pointer (some ⟨rb, 0, none⟩), .int .i64 n] w fun E w' => ∃ v : Nat, E = .returned (.int .i64 (v : Int)) ∧ v < N ∧ Rdp w' rb (P + 1) ∧ Ch (· = rb) w w' := by
 subst hn
 refine (pick_c rb P N w hr hP (by omega)).mono ?_
 rintro E w' ⟨v, rfl, ⟨h0, h2⟩, h3, h4⟩
 exact ⟨v.toNat, by rw [show ((v.toNat : Nat) : Int) = v by omega], by omega, h3, h4⟩
theorem l20Purses_c (rb P : Nat) (n : Int) (w : World) (hr : Rdp w rb P) (hP : P ≤ 900000) (h1 : 1 ≤ n) (h2 : n ≤ 1000000) : Calls Tryz.prog 107 #[.pointer (some ⟨rb, 0, none⟩), .int .i64 n] w fun E w' => ∃ A c m xs, E = .returned (.slice A m c) ∧ RI w' w.heap.size A c m xs ∧ m ≤ 6 ∧ Rdp w' rb (P + 20) ∧ Ch (· = rb) w w' := by
 have hlt := hr.lt
 go_enter Tryz.func107, Tryz.ntmps107
 go_wp2_with fail
 go_loopw [5, 6] (fun o i wr => ∃ (k : Nat) (B : Option Addr) (d : Nat) (ys : List Int), k ≤ 5 ∧ i = .int .i64 k ∧ o = .slice B k d ∧ Ch (· = rb) w wr ∧ OwI wr w.heap.size B d k ys ∧ Rdp wr rb (P + k)) (fun _ i _ => 5 - (intOf i).toNat)
 case atStart => exact ⟨0, _, 0, [], Nat.zero_le _, rfl, rfl, ext_, Ow.new [] rfl rfl rfl (fun _ => rfl) (Nat.le_refl _) (by omega), hr.keep (by (exact kb_))⟩
 case round =>
   obtain ⟨k, B, d, ys, hk, rfl, rfl, hb, ho, hrd⟩ := hrel
   have hst := xc hb
   obtain ⟨hc, hf, hz⟩ := hst
   by_cases hlt5 : k < 5
   · go_wp2_with (first | (go_at_call 92; apply Calls.mono; apply (pickLit (fun _ => True)); (apply Rdp.keep; assumption; (exact kb_)); omega; (first | rfl | (simp; done)); (repeat (first | exact LitQ.nil | (refine LitQ.cons ⟨_, rfl, (by first | exact trivial | omega)⟩ ?_))); omega; (first | omega | (simp only [zq_]; omega)); rintro E w1 ⟨v, x, rfl, hv, hq, hcx, hrd, hb⟩; (try simp only [zq_] at hcx); obtain ⟨hc, hf, hz⟩ := xd hb) | (at_builtin; apply wpList_app (lo := w.heap.size) el_I one_I rfl rfl rfl rfl; (first | assumption | exact Ow.nil _ _ | (apply Ow.keep; assumption; exact kf_) | (refine own_)); (first | (refine Rs.new [_] (by (first | rfl | (simp only [zq_]; done) | omega)) rfl rfl (fun _ => rfl) (by omega))); omega; exact sz_; intro A1 c1 w2 ho1 hch1 hat1 hex1 hlow1; have hb := hex1 (· = rb) w (by exact ext_) (by omega); have hrd := Rdp.low (Rdp.keep (by assumption) (by exact kb_)) hch1.size hlow1 (by omega); have hz := hch1.size; (try simp only [zq_] at hz); obtain ⟨hc, hf⟩ := low_rules hlow1; clear hex1))
     go_roundw
     case rel => exact ⟨k + 1, A1, c1, _, by omega, by go_num, rfl, hb, ho1, hrd⟩
     case measure => simp [intOf]; omega
   · obtain rfl : k = 5 := by omega
     have hd5 : 5 ≤ d := ho.rs.2.le
     rcases ho.form with ⟨_, h0, _⟩ | ⟨g, cur, rfl, hlo, hltg, -⟩
     · omega
     have hgne : g ≠ rb := by omega
     obtain ⟨hcg, hfg⟩ := Lb.rules (ho.lb rfl)
     have hl5 : ys.length = 5 := ho.1.symm
     go_wp2_with (first | (go_at_call 93; apply Calls.mono; apply odd_c; (apply Rdp.keep; assumption; (exact kb_)); (first | assumption | omega); (first | assumption | omega); (first | assumption | omega); rintro E w1 ⟨b, rfl, hrd, hb⟩; obtain ⟨hc, hf, hz⟩ := xd hb) | (go_at_call 92; apply Calls.mono; apply (pickLit (fun _ => True)); (apply Rdp.keep; assumption; (exact kb_)); omega; (first | rfl | (simp; done)); (repeat (first | exact LitQ.nil | (refine LitQ.cons ⟨_, rfl, (by first | exact trivial | omega)⟩ ?_))); omega; (first | omega | (simp only [zq_]; omega)); rintro E w1 ⟨v, x, rfl, hv, hq, hcx, hrd, hb⟩; (try simp only [zq_] at hcx); obtain ⟨hc, hf, hz⟩ := xd hb) | (go_at_call 92; apply Calls.mono; apply (pickN_c (N := 5)); (apply Rdp.keep; assumption; (exact kb_)); omega; rfl; decide; rintro E w1 ⟨v5, rfl, hv5, hrd, hb⟩; (obtain ⟨hc, hf, hz⟩ := xd hb)) | (go_at_call 92; apply Calls.mono; apply pick_c; (apply Rdp.keep; assumption; (exact kb_)); (first | assumption | omega); (first | assumption | omega); rintro E w1 ⟨v, rfl, ⟨hv0, hv1⟩, hrd, hb⟩; obtain ⟨hc, hf, hz⟩ := xd hb) | (at_builtin; apply wpList_app (lo := w.heap.size) el_I one_I rfl rfl rfl rfl; (first | assumption | exact Ow.nil _ _ | (apply Ow.keep; assumption; exact kf_) | (refine own_)); (first | (refine Rs.new [_] (by (first | rfl | (simp only [zq_]; done) | omega)) rfl rfl (fun _ => rfl) (by omega))); omega; exact sz_; intro A1 c1 w2 ho1 hch1 hat1 hex1 hlow1; have hb := hex1 (· = rb) w (by exact ext_) (by omega); have hrd := Rdp.low (Rdp.keep (by assumption) (by exact kb_)) hch1.size hlow1 (by omega); have hz := hch1.size; (try simp only [zq_] at hz); obtain ⟨hc, hf⟩ := low_rules hlow1; clear hex1))
     all_goals go_ret
     · have hb5 : v5 < ys.length := by omega
       have ho5 := OI_put (show OwI w1 w.heap.size (some ⟨g, 0, none⟩) d 5 ys from ho.keep kf_) rfl (k := v5) hb5 x
       exact ⟨_, _, _, _, rfl, ho5.rs, by decide, Rdp.more (hrd.keep kb_) (by omega), ext_⟩
     · have hrs : RI w1 w.heap.size (some ⟨g, 1, none⟩) (d - 1) 4 (ys.drop 1) := by
         have := RI_drop (k := 1) (show OwI w1 w.heap.size (some ⟨g, 0, none⟩) d 5 ys from ho.keep kf_).rs (by omega)
         simpa [Addr.add_lit] using this
       exact ⟨_, _, _, _, rfl, hrs, by decide, Rdp.more (hrd.keep kb_) (by omega), ext_⟩
     · have ho5 := OI_put (show OwI w1 w.heap.size (some ⟨g, 0, none⟩) d 5 ys from ho.keep kf_) rfl (k := 0) (by omega) (100000 : Int)
       exact ⟨_, _, _, _, rfl, ho5.rs, by decide, Rdp.more (hrd.keep kb_) (by omega), ext_⟩
     · exact ⟨_, _, _, _, rfl, ho1.rs, by decide, Rdp.more (hrd.keep kb_) (by omega), hb⟩
     · exact ⟨_, _, _, _, rfl, (show OwI w1 w.heap.size (some ⟨g, 0, none⟩) d 5 ys from ho.keep kf_).rs, by decide, Rdp.more (hrd.keep kb_) (by omega), ext_⟩
end Go.Proofs.YtnnoiagommiapaaGreat
