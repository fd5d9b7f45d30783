/- Texts joined: Seat, Law1, Law2, LawEq, LawEq2, LawEq3, Impl1, Plain5, Plain6, Plain7, Plain8, Law3, SortL, Law4, SwM, Plain9, Open. -/
import Derived.Test.YtnnoiagommiapaaGreatProg
import Derived.Test.YtnnoiagommiapaaGreatPy6
import Derived.Test.YtnnoiagommiapaaGreatPy5
import Derived.Test.YtnnoiagommiapaaGreatPy8
import Derived.Test.YtnnoiagommiapaaGreatPy7
import Derived.Shelf.Sort.Plain
import Derived.Sort.OwnSortedInts
set_option maxRecDepth 100000
set_option linter.unusedSimpArgs false
set_option linter.unusedVariables false
namespace Go.Proofs.YtnnoiagommiapaaGreat
open Go.RowKit Go
theorem el_I : ElemOk Tryz.prog 22 3 1 8 := .mk' (z := .int .i64 0) Tryz.underlying22 (by kernel_rfl) rfl (by omega)
theorem el_E : ElemOk Tryz.prog 37 207 4 32 := .mk' (z := .agg #[.int .i64 0, .int .i64 0, .int .i64 0, .int .i64 0]) Tryz.underlying37 (by kernel_rfl) rfl (by omega)
theorem el_R : ElemOk Tryz.prog 102 109 3 24 := .mk' (z := .agg #[.int .i64 0, .int .i64 0, .bool false]) Tryz.underlying102 (by kernel_rfl) rfl (by omega)
abbrev OwI := Ow encI 1 3
abbrev OwE := Ow Sw.Ent.enc 4 207
abbrev OwR := Ow Sw.Row.enc 3 109
theorem one_I (x : Int) : ∀ u ∈ encI x, u.oneCell' = true := by simp [encI, Value.oneCell']
theorem one_E (x : Sw.Ent) : ∀ u ∈ x.enc, u.oneCell' = true := by simp [Sw.Ent.enc, Value.oneCell']
theorem one_R (x : Sw.Row) : ∀ u ∈ x.enc, u.oneCell' = true := by simp [Sw.Row.enc, Value.oneCell']
set_option maxHeartbeats 400000
theorem z_I : ∀ i z, Tryz.prog.info? 3 = some i → i.zero = some z → z.cells = (encI 0).toArray := by
 have h : (Tryz.prog.info? 3).map (·.zero) = some (some (.int .i64 0)) := by kernel_rfl
 intro i z hi hz
 rw [hi] at h
 simp only [Option.map_some, Option.some.injEq] at h
 rw [hz] at h
 cases h
 rfl
theorem at_OI {w : World} {lo c n k : Nat} {A : Option Addr} {xs : List Int} (h : OwI w lo A c n xs) (hk : k < n) :
   ∃ g x, A = some ⟨g, 0, none⟩ ∧ lo ≤ g ∧ g < w.heap.size ∧ xs[k]? = some x ∧ w.cell? ⟨g, k, none⟩ = some (.int .i64 x) ∧ (∀ i, w.frozen? ⟨g, i, none⟩ = false) := by
 obtain ⟨g, x, h1, h2, h3, h4, h5, h6⟩ := Ow.at_ h (fun _ => rfl) hk
 exact ⟨g, x, h1, h2, h3, h4, by simpa using h5 0 _ (by omega) rfl, h6⟩
theorem OI_set {w : World} {lo c n k g : Nat} {A : Option Addr} {xs : List Int} (h : OwI w lo A c n xs) (hA : A = some ⟨g, 0, none⟩) {a : Int} (hx : xs[k]? = some a) (v : Int) :
   OwI (w.setCell ⟨g, k, none⟩ (.int .i64 v)) lo A c n (xs.set k v) := by
 have := Ow.set h (fun _ => rfl) (j := 0) (u := .int .i64 v) hA hx (by omega) (y := v) rfl
 simpa using this
set_option maxHeartbeats 400000
set_option maxHeartbeats 400000
def szOf (l n : Int) : Int := if l - n < 0 then -1 else l - n
set_option maxHeartbeats 400000
def dsz (gs : List Sw.Gate) : Nat := (gs.map (·.done.length)).sum
def psz (xs : List Sw.Msg) : Nat := (xs.map (·.proof.length)).sum
theorem dsz_cons (g : Sw.Gate) (gs : List Sw.Gate) : dsz (g :: gs) = g.done.length + dsz gs := by simp [dsz]
theorem psz_cons (g : Sw.Msg) (gs : List Sw.Msg) : psz (g :: gs) = g.proof.length + psz gs := by simp [psz]
set_option maxHeartbeats 400000
set_option maxHeartbeats 400000
def badAt (xs : List Int) : Int := match xs.findIdx? (fun x => !Sw.mixOk x) with
 | some i => i
 | none => -1
end Go.Proofs.YtnnoiagommiapaaGreat
namespace Go.Proofs.YtnnoiagommiapaaGreat.Sw
open Go.RowKit (wrap64)
def Of (log : List Ent) (h : Head) : Prop := hedAt log h.size = some h
theorem hedAt_some {log : List Ent} {s : Int} {h : Head} : hedAt log s = some h ↔ (0 ≤ s ∧ s ≤ log.length) ∧ hedOf (log.take s.toNat) = some h := by
 unfold hedAt
 split
 · rename_i hc; rw [inR_iff] at hc; simp [hc]
 · rename_i hc
   have : ¬ (0 ≤ s ∧ s ≤ log.length) := fun h => hc (inR_iff.2 h)
   simp [this]
theorem hedAt_append {log : List Ent} {s : Int} (es : List Ent) (h : 0 ≤ s ∧ s ≤ log.length) : hedAt (log ++ es) s = hedAt log s := by
 unfold hedAt
 rw [if_pos (inR_iff.2 h), if_pos (inR_iff.2 (by rw [List.length_append]; omega)), List.take_append_of_le_length (by omega)]
theorem Of.append {log : List Ent} {h : Head} (e : Of log h) (es : List Ent) : Of (log ++ es) h := by
 unfold Of at *
 rw [hedAt_append es (hedAt_some.1 e).1, e]
structure Inv (first : List Int) (w : World) : Prop where
 ok : WOk w
 isFirst : w.first = first
 fold : wldFold first w.lines = some w.market
 money : total w.market = first.sum
 gates : ∀ g ∈ w.gates, Of w.market.log g.head
 bag : ∀ x ∈ w.bag, Of w.market.log x.head
theorem Inv.rows {first : List Int} {w : World} (h : Inv first w) : ∃ rows, MOk w.market rows := mktOk_iff.1 h.ok.mkt
end Go.Proofs.YtnnoiagommiapaaGreat.Sw
namespace Go.Proofs.YtnnoiagommiapaaGreat.Sw
open Go.RowKit (wrap64)
theorem leavesFrom_len : ∀ (rows : List Row) (t : Int), (leavesFrom t rows).length = rows.length
 | [], _ => rfl
 | r :: rs, t => by simp [leavesFrom, leavesFrom_len rs]
theorem ownLeaves_len (rows : List Row) : (ownLeaves rows).length = rows.length := leavesFrom_len rows 0
end Go.Proofs.YtnnoiagommiapaaGreat.Sw
namespace Go.Proofs.YtnnoiagommiapaaGreat.Sw
open Go.RowKit (wrap64)
inductive Did (m : Mkt) (rows : List Row) (r : Req) : Mkt → Int → Prop
 | again : r.n = lastOf m.nums r.user → Did m rows r m (lastOf m.said r.user)
 | old : r.n < lastOf m.nums r.user → Did m rows r m 7
 | no (a : Int) : lastOf m.nums r.user < r.n → 2 ≤ a → a ≤ 6 → Did m rows r (noted m r a) a
 | yes (x : Mkt) : lastOf m.nums r.user < r.n → DoneBy m rows r x → Eff m x → Did m rows r (noted x r 1) 1
theorem did {m : Mkt} {rows : List Row} {r : Req} (h : MOk m rows) (hr : reqOk r = true) : Did m rows r (doIt m r).1 (doIt m r).2 := by
 unfold doIt
 split
 · exact .again ‹_›
 split
 · exact .old ‹_›
 · have ha := effect_ans m r
   have he := effect_eff h hr
   show Did m rows r (noted (effect m r).1 r (effect m r).2) (effect m r).2
   rcases effect_done h hr with ⟨h1, h2⟩ | ⟨h1, h2⟩
   · rw [h2]
     exact .no _ (by omega) (by omega) (by omega)
   · rw [h1]
     exact .yes _ (by omega) h2 he
theorem dealOf_iff {clock : Int} {rows : List Row} {ds : List Deal} (h : DOk clock rows ds) {t : Int} {d : Deal} : dealOf ds t = some d ↔ d ∈ ds ∧ d.ticket = t := by
 unfold dealOf
 constructor
 · intro e
   exact ⟨List.mem_of_find?_eq_some e, by have := List.find?_some e; simpa using this⟩
 · rintro ⟨h1, h2⟩
   cases e : ds.find? (fun d => decide (d.ticket = t)) with
   | none =>
     have := List.find?_eq_none.1 e d h1
     simp [h2] at this
   | some d' =>
     have h3 := List.mem_of_find?_eq_some e
     have h4 : d'.ticket = t := by have := List.find?_some e; simpa using this
     obtain ⟨i, hi, rfl⟩ := List.getElem_of_mem h1
     obtain ⟨j, hj, rfl⟩ := List.getElem_of_mem h3
     have := h.inj (List.getElem?_eq_getElem hi) (List.getElem?_eq_getElem hj) (by rw [h2, h4])
     subst this
     rfl
theorem dealOf_none {ds : List Deal} {t : Int} : dealOf ds t = none ↔ ∀ d ∈ ds, d.ticket ≠ t := by
 unfold dealOf
 rw [List.find?_eq_none]
 simp
theorem dealOf_same {c c' : Int} {rows rows' : List Row} {ds es : List Deal} (h : DOk c rows ds) (k : DOk c' rows' es) {t : Int} (he : ∀ d, d.ticket = t → (d ∈ ds ↔ d ∈ es)) : dealOf ds t = dealOf es t := by
 cases e : dealOf ds t with
 | none =>
   symm
   rw [dealOf_none] at e ⊢
   intro d hd ht
   exact e d ((he d ht).2 hd) ht
 | some d =>
   symm
   rw [dealOf_iff h] at e
   rw [dealOf_iff k]
   exact ⟨(he d e.2).1 e.1, e.2⟩
theorem dealOf_at {clock : Int} {rows : List Row} {ds : List Deal} (h : DOk clock rows ds) {k : Nat} {d : Deal} (hk : ds[k]? = some d) : dealOf ds d.ticket = some d := (dealOf_iff h).2 ⟨List.mem_of_getElem? hk, rfl⟩
theorem erase_mem {ds : List Deal} {k : Nat} {d x : Deal} (hk : ds[k]? = some d) (hx : x.ticket ≠ d.ticket) : x ∈ ds.eraseIdx k ↔ x ∈ ds := by
 rw [List.mem_eraseIdx_iff_getElem?]
 constructor
 · rintro ⟨i, _, hi⟩
   exact List.mem_of_getElem? hi
 · intro h
   obtain ⟨i, hi⟩ := List.getElem?_of_mem h
   refine ⟨i, ?_, hi⟩
   rintro rfl
   rw [hk] at hi
   exact hx (by rw [Option.some.inj hi])
theorem set_mem {ds : List Deal} {k : Nat} {d e x : Deal} (hk : ds[k]? = some d) (h1 : x.ticket ≠ d.ticket) (h2 : x.ticket ≠ e.ticket) : x ∈ ds.set k e ↔ x ∈ ds := by
 have hk' := (List.getElem?_eq_some_iff.1 hk).1
 constructor
 · intro h
   rcases List.mem_or_eq_of_mem_set h with h | rfl
   · exact h
   · exact absurd rfl h2
 · intro h
   obtain ⟨i, hi⟩ := List.getElem?_of_mem h
   have hne : k ≠ i := by
     rintro rfl
     rw [hk] at hi
     exact h1 (by rw [Option.some.inj hi])
   exact List.mem_of_getElem? (i := i) (by rw [List.getElem?_set, if_neg hne]; exact hi)
theorem DoneBy.fold {m x : Mkt} {rows : List Row} {r : Req} (h : MOk m rows) (hr : reqOk r = true) (d : DoneBy m rows r x) :
   ∃ rows', ownFold x.log = some rows' ∧ ∀ t, 0 ≤ t → t ≠ r.ticket → rowAt rows' t = rowAt rows t := by
 have hr := reqOk_iff.1 hr
 have ho := ownFold_ok h.fold
 have put : ∀ (e : Ent), e.ticket = r.ticket → ownFits rows e = true → m.log.length < 40 → ∃ rows', ownFold (m.log ++ [e]) = some rows' ∧ ∀ t, 0 ≤ t → t ≠ r.ticket → rowAt rows' t = rowAt rows t := by
   intro e he hf hl
   refine ⟨_, ownFold_snoc h.fold hl hf, fun t h0 ht => ?_⟩
   rw [rowAt_put (ownOk_len ho) (by rw [he]; exact hr.2.2.2.1) h0, if_neg (by rw [he]; exact ht)]
 cases d with
 | issue k1 h1 h2 h3 hl h4 =>
   refine put ⟨1, r.ticket, r.who, r.price⟩ rfl (ownFits_iff.2 ⟨ho, entOk_iff.2 ?_, (fitsRow_iff (.inl rfl)).2 (.inl ⟨rfl, h3⟩)⟩) hl
   dsimp only
   omega
 | offer => exact ⟨rows, h.fold, fun _ _ _ => rfl⟩
 | drop => exact ⟨rows, h.fold, fun _ _ _ => rfl⟩
 | fund => exact ⟨rows, h.fold, fun _ _ _ => rfl⟩
 | settle k d k5 hk hd ht hh hs hl hm =>
   have hdo := dealOk_iff.1 (h.deals.get hd)
   have hcap := entCap_le (rowAt rows d.ticket).face
   have hb : 0 < d.buyer := by simpa [held] using hh
   refine put ⟨2, r.ticket, d.buyer, d.price⟩ rfl (ownFits_iff.2 ⟨ho, entOk_iff.2 ?_, (fitsRow_iff (.inr (.inl rfl))).2 (.inr (.inl ⟨rfl, ?_⟩))⟩) hl <;> dsimp only
   · omega
   · rw [← ht]
     refine ⟨by omega, ?_, hdo.2.2.2.1, hdo.2.2.2.2.1.2⟩
     rw [hdo.2.2.1]; omega
 | enter k6 h1 h2 h3 hl =>
   refine put ⟨3, r.ticket, r.user, 0⟩ rfl (ownFits_iff.2 ⟨ho, entOk_iff.2 ?_, (fitsRow_iff (.inr (.inr rfl))).2 (.inr (.inr ⟨rfl, h1, h2⟩))⟩) hl
   dsimp only
   omega
theorem DoneBy.apart {m x : Mkt} {rows : List Row} {r : Req} (h : MOk m rows) (d : DoneBy m rows r x) (e : Eff m x) {t : Int} (ht : t ≠ r.ticket) : dealOf m.deals t = dealOf x.deals t := by
 obtain ⟨rows', _, hx⟩ := e.rows
 refine dealOf_same h.deals hx fun y hy => ?_
 cases d with
 | issue => exact Iff.rfl
 | offer =>
   rw [insertDeal_mem]
   constructor
   · exact .inr
   · rintro (rfl | h)
     · exact absurd hy.symm ht
     · exact h
 | drop k d k3 h1 hk hd hdt => exact (erase_mem hd (by rw [hdt, hy]; exact ht)).symm
 | fund k d k4 hk hd hdt => exact (set_mem hd (by rw [hdt, hy]; exact ht) (by dsimp only; rw [hdt, hy]; exact ht)).symm
 | settle k d k5 hk hd hdt => exact (erase_mem hd (by rw [hdt, hy]; exact ht)).symm
 | enter => exact Iff.rfl
def ticks : Nat → Mkt → Option Mkt
 | 0, m => some m
 | n + 1, m => if m.clock = 99999 then none else ticks n (tick m)
end Go.Proofs.YtnnoiagommiapaaGreat.Sw
namespace Go.Proofs.YtnnoiagommiapaaGreat.Sw
open Go.RowKit (wrap64)
def anyFork (a b : List Head) : Bool := a.any fun x => b.any fun y => hedFork x y
def newOk (p : List Int) : Bool := monOk p && decide (monSum p ≤ 100000)
end Go.Proofs.YtnnoiagommiapaaGreat.Sw
namespace Go.Proofs.YtnnoiagommiapaaGreat
open Go.RowKit Go
set_option maxHeartbeats 400000
def marks : Int → Nat → List Int
 | _, 0 => []
 | k, n + 1 => k :: marks (k + 1) n
theorem marks_len : ∀ (n : Nat) (k : Int), (marks k n).length = n
 | 0, _ => rfl
 | n + 1, k => by rw [marks, List.length_cons, marks_len n]
theorem marks_at : ∀ (n j : Nat) (k : Int), j < n → (marks k n)[j]? = some (k + j)
 | 0, j, k, h => absurd h (Nat.not_lt_zero _)
 | n + 1, 0, k, _ => by simp [marks]
 | n + 1, j + 1, k, h => by
   rw [marks, List.getElem?_cons_succ, marks_at n j (k + 1) (by omega)]
   congr 1; omega
end Go.Proofs.YtnnoiagommiapaaGreat
namespace Go.Proofs.YtnnoiagommiapaaGreat
open Go.Shelf Go.Sort Go.RowKit Go
set_option maxHeartbeats 1000000
def sortRen : Ren := Ren.mk (fun x => match x with
 | 189 => 258
 | 125 => 282
 | 257 => 281
 | 128 => 299
 | 129 => 300
 | 294 => 290
 | 295 => 291
 | 296 => 292
 | 297 => 293
 | 298 => 294
 | 299 => 295
 | 216 => 296
 | 300 => 297
 | 301 => 298
 | 328 => 304
 | 329 => 305
 | 330 => 306
 | 331 => 307
 | 332 => 308
 | 215 => 309
 | 343 => 310
 | n => n)
 (fun x => match x with
 | 28 => 22
 | 3 => 3
 | 46 => 264
 | 0 => 0
 | 51 => 278
 | 53 => 280
 | 4 => 4
 | 183 => 271
 | 182 => 270
 | 131 => 267
 | 5 => 5
 | 9 => 9
 | 218 => 282
 | 222 => 286
 | 228 => 288
 | 229 => 289
 | n => n)
 (fun n => n)
end Go.Proofs.YtnnoiagommiapaaGreat
namespace Go.Proofs.YtnnoiagommiapaaGreat
open Go.RowKit Go
set_option maxHeartbeats 400000
theorem swOk_c (w : World) : Calls Tryz.prog 32 #[] w fun E w' => E = .returned (.bool true) ∧ w = w' := by
 have h1 : Sw.mixOk 1 = true := rfl
 go_enter Tryz.func32, Tryz.ntmps32
 go_wp2_with (first | (go_at_call 102; refine (iMixOk_c _ _).mono ?_; rintro E w' ⟨rfl, rfl⟩))
 go_ret
 exact ⟨ret_b (by simp [h1]), rfl⟩
set_option maxHeartbeats 1000000
end Go.Proofs.YtnnoiagommiapaaGreat
namespace Go.Proofs.YtnnoiagommiapaaGreat.Sw
open Go.RowKit (wrap64)
theorem done_rows {m x : Mkt} {rows : List Row} {r : Req} (h : MOk m rows) (hr : reqOk r = true) (d : DoneBy m rows r x) {t : Int} (h0 : 0 ≤ t) (ht : t ≠ r.ticket) : rowAt (mktRows x) t = rowAt (mktRows m) t := by
 obtain ⟨rows', e1, e2⟩ := d.fold h hr
 rw [mktRows_of e1, mktRows_of h.fold]
 exact e2 t h0 ht
theorem apart {m : Mkt} {rows : List Row} {r : Req} (h : MOk m rows) (hr : reqOk r = true) {t : Int} (h0 : 0 ≤ t) (ht : t ≠ r.ticket) :
   rowAt (mktRows (doIt m r).1) t = rowAt (mktRows m) t ∧ dealOf (doIt m r).1.deals t = dealOf m.deals t := by
 have d := did h hr
 generalize (doIt m r).1 = x at *
 generalize (doIt m r).2 = n at *
 cases d with
 | again => exact ⟨rfl, rfl⟩
 | old => exact ⟨rfl, rfl⟩
 | no a => exact ⟨rfl, rfl⟩
 | yes x hn d he => exact ⟨done_rows h hr d h0 ht, (d.apart h he ht).symm⟩
theorem monHas_of {p : List Int} {u : Int} (h : monOk p = true) (hu : 1 ≤ u ∧ u ≤ 5) : monHas p u = purse p u := by
 unfold monHas
 rw [h, inR_iff.2 hu]
 rfl
def Settled (m x : Mkt) (r : Req) (e : Ent) (d : Deal) : Prop :=
 x.log = m.log ++ [e] ∧ e.kind = 2 ∧ e.price = d.price ∧ r.kind = 5 ∧ dealOf m.deals r.ticket = some d ∧ dealOf x.deals r.ticket = none ∧ 0 < d.buyer ∧ (rowAt (mktRows x) r.ticket).who = d.buyer ∧
   monHas x.purses d.seller = monHas m.purses d.seller + d.price ∧ mktHeld x = mktHeld m - d.price
theorem funded {m : Mkt} {rows : List Row} {r : Req} (h : MOk m rows) (hr : reqOk r = true) (h1 : (doIt m r).2 = 1) (k4 : r.kind = 4) (hn : r.n ≠ lastOf m.nums r.user) :
   ∃ d, dealOf m.deals r.ticket = some d ∧ dealOf (doIt m r).1.deals r.ticket = some { d with buyer := r.user, due := m.clock + 5 } ∧ d.buyer = 0 ∧
     monHas (doIt m r).1.purses r.user = monHas m.purses r.user - d.price ∧ mktHeld (doIt m r).1 = mktHeld m + d.price ∧ mktRows (doIt m r).1 = mktRows m ∧ r.ticket ∈ mktFor (doIt m r).1 r.user := by
 have hq := reqOk_iff.1 hr
 obtain ⟨rows', h'⟩ := doIt_ok h hr
 have d := did h hr
 generalize (doIt m r).1 = x at *
 generalize (doIt m r).2 = n at *
 cases d with
 | again hc => exact absurd hc hn
 | old => omega
 | no a => omega
 | yes x hlt d he =>
   cases d with
   | issue k1 => omega
   | offer k2 => omega
   | drop k d k3 => omega
   | settle k d k5 => omega
   | enter k6 => omega
   | fund k d _ hk hd ht hh hs hm =>
     have hdo := dealOk_iff.1 (h.deals.get hd)
     have hb : ¬ 0 < d.buyer := by simpa [held] using hh
     have hlt : k < m.deals.length := (List.getElem?_eq_some_iff.1 hd).1
     have hset : (m.deals.set k { d with buyer := r.user, due := m.clock + 5 })[k]? = some { d with buyer := r.user, due := m.clock + 5 } := by
       rw [List.getElem?_set_self hlt]
     have e2 : dealOf (m.deals.set k { d with buyer := r.user, due := m.clock + 5 }) d.ticket = some { d with buyer := r.user, due := m.clock + 5 } := dealOf_at h'.deals hset
     refine ⟨d, by rw [← ht]; exact dealOf_at h.deals hd, by rw [← ht]; exact e2, by omega, ?_, ?_, rfl, ?_⟩
     · show monHas (turned m.purses r.user (-d.price)) r.user = _
       rw [monHas_of (turned_ok hm) hq.1, monHas_of h.mon hq.1, purse_turned hm hq.1.1, if_pos rfl]
       omega
     · have e1 : mktHeld (noted { m with purses := turned m.purses r.user (-d.price), deals := m.deals.set k { d with buyer := r.user, due := m.clock + 5 } } r 1) = heldSum (m.deals.set k { d with buyer := r.user, due := m.clock + 5 }) := heldOf_eq h'.deals h'.dlen
       rw [e1, heldSum_set hd, mktHeld, heldOf_eq h.deals h.dlen]
       have i1 : heldIn d = 0 := by simp [heldIn, hh]
       have i2 : heldIn { d with buyer := r.user, due := m.clock + 5 } = d.price := by
         have : held { d with buyer := r.user, due := m.clock + 5 } = true := by simp [held]; omega
         simp [heldIn, this]
       omega
     · unfold mktFor
       rw [List.mem_map]
       refine ⟨{ d with buyer := r.user, due := m.clock + 5 }, List.mem_filter.2 ⟨List.mem_of_getElem? hset, ?_⟩, ht⟩
       have : held { d with buyer := r.user, due := m.clock + 5 } = true := by simp [held]; omega
       simp [this]
end Go.Proofs.YtnnoiagommiapaaGreat.Sw
namespace Go.Proofs.YtnnoiagommiapaaGreat
open Go.ChangeShapes Go.WideShapes Go.ChangeAt Go.RowKit Go
section
variable {H : Type} {enc : TypeId × Value → H} {P : Program} {W : World}
theorem add_spot {a : Addr} (h : a.spot = none) (i : Nat) : a.add i = ⟨a.block, a.off + i, none⟩ := by
 obtain ⟨b, o, s⟩ := a
 dsimp only at h
 subst h
 exact Addr.add_lit _ _ _
theorem rs_of_trod {α : Type} {ec : α → List Value} {sz : Nat} {t e : TypeId} {fuel : Nat} {cs : List Value} {x : DataW H × List MemPlace} (ht : P.underlying t = some (.slice e)) (hc : P.cellsOf e = sz) (hp : 0 < sz) (hsz : ∀ y, (ec y).length = sz)
   {Q : α → Prop} (he : ∀ n cs y, DataW.trod enc P W 0 (fun _ => true) true n e cs = some y → ∃ z : α, cs = ec z ∧ Q z) (h : DataW.trod enc P W 0 (fun _ => true) true fuel t cs = some x) :
   ∃ A c n xs, cs = [.slice A n c] ∧ Rs ec sz W 0 A c n xs ∧ ∀ y ∈ xs, Q y := by
 rcases Go.Deep.open_slice ht h with ⟨rfl, _⟩ | ⟨a, len, cap, m, n, D, Pl, rfl, _, hl, hm, hmm, hxx, hi⟩
 · exact ⟨none, 0, 0, [], rfl, ⟨rfl, Rd.none_ _ _ _⟩, by simp⟩
 · rw [if_pos rfl] at hmm
   subst hmm
   rw [hc] at hi
   have hi2 : ∀ i, i < len → ∃ z : α, Q z ∧ ∀ j, j < sz → W.cell? ((a.add (i * sz)).add j) = (ec z)[j]? := by
     intro i hil
     obtain ⟨cs', h1, h2⟩ := hi i (by omega)
     obtain ⟨z, rfl, hq⟩ := he _ _ _ h2
     exact ⟨z, hq, (World.cells?_some h1).2.2⟩
   have spot : 0 < len → a.spot = none ∧ a.block < W.heap.size := by
     intro h0
     obtain ⟨z, _, hz⟩ := hi2 0 h0
     have h1 := hz 0 hp
     rw [List.getElem?_eq_getElem (by rw [hsz]; exact hp)] at h1
     have h2 := spot_of_cell h1
     rw [Nat.zero_mul] at h2
     have e0 : ∀ b : Addr, (b.add 0).spot = none → b.spot = none := by
       intro b hb
       simp only [Addr.add] at hb
       split at hb <;> first | exact hb | contradiction | omega
     have e1 : ∀ b : Addr, (b.add 0).block = b.block := by
       intro b
       simp only [Addr.add]
       split <;> rfl
     exact ⟨e0 _ (e0 _ h2.1), by rw [e1, e1] at h2; exact h2.2⟩
   obtain ⟨xs, hlen, hxs⟩ : ∃ xs : List α, xs.length = len ∧ ∀ i z, xs[i]? = some z → Q z ∧ ∀ j, j < sz → W.cell? ((a.add (i * sz)).add j) = (ec z)[j]? := by
     clear hi spot h hl hxx
     induction len with
     | zero => exact ⟨[], rfl, by simp⟩
     | succ k ih =>
       obtain ⟨xs, h1, h2⟩ := ih (fun i hi => hi2 i (by omega))
       obtain ⟨z, hz⟩ := hi2 k (by omega)
       refine ⟨xs ++ [z], by simp [h1], fun i y hy => ?_⟩
       rw [List.getElem?_append] at hy
       split at hy
       · exact h2 i y hy
       · have : i = k := by
           have := (List.getElem?_eq_some_iff.1 hy).1
           simp at this
           omega
         subst this
         rw [h1, Nat.sub_self] at hy
         simp at hy
         subst hy
         exact hz
   refine ⟨some a, m, len, xs, rfl, ⟨hlen.symm, ⟨?_, hl, hm, (fun h => by cases h), fun b hb hn => ?_⟩⟩, fun y hy => ?_⟩
   · have key : ∀ xs : List α, (xs.flatMap ec).length = xs.length * sz := by
       intro xs
       induction xs with
       | nil => simp
       | cons x xs ih => simp only [List.flatMap_cons, List.length_append, hsz, ih, List.length_cons, Nat.succ_mul]; omega
     rw [key, hlen]
   · obtain rfl := Option.some.inj hb
     obtain ⟨s1, s2⟩ := spot hn
     refine ⟨s1, Nat.zero_le _, s2, fun j u hu => ?_⟩
     have key : ∀ xs : List α, (xs.flatMap ec).length = xs.length * sz := by
       intro xs
       induction xs with
       | nil => simp
       | cons x xs ih => simp only [List.flatMap_cons, List.length_append, hsz, ih, List.length_cons, Nat.succ_mul]; omega
     have hj := (List.getElem?_eq_some_iff.1 hu).1
     rw [key] at hj
     have hk : j / sz < xs.length := Nat.div_lt_of_lt_mul (by rw [Nat.mul_comm]; exact hj)
     have hr : j % sz < sz := Nat.mod_lt _ hp
     have hd : j / sz * sz + j % sz = j := by rw [Nat.mul_comm]; exact Nat.div_add_mod _ _
     have h1 := flat_get hsz xs (j / sz) (j % sz) hk hr
     rw [hd, hu] at h1
     have h2 := (hxs (j / sz) _ (List.getElem?_eq_getElem hk)).2 (j % sz) hr
     rw [← h1, add_spot s1, add_spot rfl] at h2
     dsimp only at h2
     rw [Nat.add_assoc, hd] at h2
     exact h2
   · obtain ⟨i, hi⟩ := List.getElem?_of_mem hy
     exact (hxs i y hi).1
def fieldsInt (fs : Array Field) (ti : TypeId) : Bool := (List.range fs.size).all fun i => match fs[i]? with
 | some f => decide (f.type = ti) && decide (f.offset = i)
 | none => false
def valInt : Value → Int
 | .int _ n => n
 | _ => 0
end
end Go.Proofs.YtnnoiagommiapaaGreat
