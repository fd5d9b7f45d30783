/- Texts joined: Mak, LawMk, NewSt. -/
import Derived.Test.YtnnoiagommiapaaGreatPy11
import Derived.Test.YtnnoiagommiapaaGreatPy18
import Derived.Test.YtnnoiagommiapaaGreatPy9
import Derived.Test.YtnnoiagommiapaaGreatPy17
set_option maxRecDepth 100000
set_option linter.unusedSimpArgs false
set_option linter.unusedVariables false
namespace Go.Proofs.YtnnoiagommiapaaGreat
open Go.RowKit Go
set_option maxHeartbeats 1000000
theorem step_mk {P : Program} {w : World} {ops : Array Oper} {o : Oper} {a : Act} {Kx : Act → World → Prop} {Q : Exit → Act → World → Prop} {E : Prop} {α : Type} {enc : α → List Value} {sz bytes : Nat} {t e : TypeId} {l c : Operand} {lo n : Nat}
   (hel : ElemOk P t e sz bytes) (zx : α) (hzx : ∀ i z, P.info? e = some i → i.zero = some z → z.cells = (enc zx).toArray) (hsz : (enc zx).length = sz) (hgd : o.guard = none)
   (ho : o.op = .makeSlice t l c) (hl : a.eval l = .int .i64 n) (hc : a.eval c = .int .i64 n) (hb : bytes * n ≤ 281474976710656) (hn : n ≤ maxLen) (hlo : lo ≤ w.heap.size)
   (K : ∀ w', Ow enc sz e w' lo (some ⟨w.heap.size, 0, none⟩) n n (List.replicate n zx) → Ex w w' → w.heap.size + 1 ≤ w'.heap.size → Kx (a.put o.dst (.slice (some ⟨w.heap.size, 0, none⟩) n n)) w') :
   if Region.wanted o (yielded ops a.tmps) = true then o.wp P a w Kx Q else E := by
 rw [if_pos (by simp [Region.wanted, hgd])]
 obtain ⟨i, z, hi, hz, hsz', hby, hzs⟩ := hel.info
 obtain ⟨w', hrun, h1, h2⟩ := run_make_full (P := P) w lo t e i z sz hel.sl hi hz hsz' .i64 .i64 n (by rw [hby]; exact hb) hn hlo
 unfold Oper.wp
 simp [execOp, ho, hl, hc, hrun, Result.andThen]
 rw [hzx i z hi hz, madeCells_flat zx hsz hel.pos] at h1
 refine K w' ⟨(List.length_replicate ..).symm, h1⟩ ⟨h2.os, h2.tape, h2.output, h2.size, fun k hk _ => h2.block k hk (by simp)⟩ ?_
 rcases h1.2 with ⟨hv, h0⟩ | ⟨g, cap, cur, hv, hb, hh, _⟩
 · cases hv
 · injection hv with e1 e2 e3
   have e4 : w.heap.size = g := by injection e1 with e1; injection e1
   subst e4
   exact (Array.getElem?_eq_some_iff.1 hh).1
inductive MakeSt {α : Type} (enc : α → List Value) (sz : Nat) (e : TypeId) (τ : Nat → Nat) (t : Nat) (w : World) (lo n : Nat) (xs : List α) : Bool → Value → Prop
 | none (v : Value) : MakeSt enc sz e τ t w lo n xs false v
 | done (A : Option Addr) (c : Nat) (h : OwT enc sz e τ t w lo A c n xs) : MakeSt enc sz e τ t w lo n xs true (.slice A n c)
section
variable {α : Type} {enc : α → List Value} {sz : Nat} {e : TypeId} {τ τ' : Nat → Nat} {t s : Nat} {w w' : World} {lo n c : Nat} {xs : List α} {l r : Bool} {v u : Value} {A A' : Option Addr}
theorem MakeSt.mv (h : MakeSt enc sz e τ t w lo n xs r u) (f : ∀ A c k ys, OwT enc sz e τ t w lo A c k ys → OwT enc sz e τ' t w' lo A c k ys) : MakeSt enc sz e τ' t w' lo n xs r u := by
 cases h with
 | none => exact .none _
 | done A c h => exact .done _ _ (f _ _ _ _ h)
theorem MakeSt.alloc {o : Obj} (h : MakeSt enc sz e τ t w lo n xs r u) : MakeSt enc sz e (glue τ w.heap.size (fun _ => s)) t (w.alloc o) lo n xs r u :=
 h.mv fun _ _ _ _ h => (h.glueL (Nat.le_refl _)).keep (KT.refl _ _ _ _).alloc
theorem MakeSt.app (h : MakeSt enc sz e τ t w lo n xs r u) (hb : Ch (atA A) w w') (ht : ∀ a, A = some a → τ a.block = s) (hne : t ≠ s) : MakeSt enc sz e (glue τ w.heap.size (fun _ => s)) t w' lo n xs r u :=
 h.mv fun _ _ _ _ h => (h.glueL (Nat.le_refl _)).keep (KT.ch hb (KT.refl _ _ _ _) fun i ⟨a, ha, hi⟩ => .inr (by rw [hi, glue_tag (ht a ha)]; exact Ne.symm hne))
theorem MakeSt.ex (h : MakeSt enc sz e τ t w lo n xs r u) (hb : Ex w w') : MakeSt enc sz e (glue τ w.heap.size (fun _ => s)) t w' lo n xs r u :=
 h.mv fun _ _ _ _ h => (h.glueL (Nat.le_refl _)).keep (KT.ex hb (KT.refl _ _ _ _))
theorem CopySt.ex (h : CopySt enc sz e τ t w lo n xs l r v u) (hb : Ex w w') : CopySt enc sz e (glue τ w.heap.size (fun _ => s)) t w' lo n xs l r v u :=
 h.mv fun _ _ _ _ h => (h.glueL (Nat.le_refl _)).keep (KT.ex hb (KT.refl _ _ _ _))
theorem OwT.newT {ys : List α} {m lo' : Nat} (h : Ow enc sz e w' lo' A c m ys) (hl : w.heap.size ≤ lo') (hlo : lo ≤ lo') : OwT enc sz e (glue τ w.heap.size (fun _ => t)) t w' lo A c m ys :=
 ⟨h.less hlo, fun a ha => by unfold glue; rw [if_neg (by have := (h.blk ha).1; omega)]⟩
end
end Go.Proofs.YtnnoiagommiapaaGreat
namespace Go.Proofs.YtnnoiagommiapaaGreat
open Go.RowKit Go
set_option maxHeartbeats 1000000
def FI (zs : List Int) : List Value := zs.map (Value.int .i64)
structure OwFl (sz : Nat) (e : TypeId) (w : World) (lo : Nat) (A : Option Addr) (c n : Nat) (zs : List Int) : Prop where
 len : n * sz = zs.length
 owns : w.ownsRow lo e sz (.slice A n c) n (FI zs)
section
variable {sz : Nat} {e : TypeId} {w w' : World} {lo lo' c n k : Nat} {A : Option Addr} {zs : List Int}
theorem OwFl.of {α : Type} {enc : α → List Value} {f : α → List Int} {xs : List α} (h : Ow enc sz e w lo A c n xs) (hf : ∀ x, enc x = FI (f x)) (hl : ∀ x, (f x).length = sz) : OwFl sz e w lo A c n (xs.flatMap f) := by
 have e1 : xs.flatMap enc = FI (xs.flatMap f) := by
   clear h
   induction xs with
   | nil => rfl
   | cons x xs ih => rw [List.flatMap_cons, List.flatMap_cons, ih, hf]; simp [FI]
 have e2 : (xs.flatMap f).length = xs.length * sz := by
   clear h e1
   induction xs with
   | nil => simp
   | cons x xs ih => simp only [List.flatMap_cons, List.length_append, hl, ih, List.length_cons, Nat.succ_mul]; omega
 exact ⟨by rw [e2, h.1], by rw [← e1]; exact h.2⟩
theorem OwFl.form (h : OwFl sz e w lo A c n zs) : (A = none ∧ n = 0 ∧ c = 0) ∨ ∃ g cur, A = some ⟨g, 0, none⟩ ∧ lo ≤ g ∧ g < w.heap.size ∧ w.heap[g]? = some (.cells cur e (0, 0)) ∧ n ≤ c ∧ c ≤ maxLen ∧ cur.size = c * sz ∧ cur.toList.take (n * sz) = FI zs := by
 rcases h.owns.2 with ⟨hv, h0⟩ | ⟨g, cap, cur, hv, hb, hh, hn, hm, hs, ht⟩
 · injection hv with h1 h2 h3; exact .inl ⟨h1, h2, h3⟩
 · injection hv with h1 h2 h3
   subst h3
   exact .inr ⟨g, cur, h1, hb, (Array.getElem?_eq_some_iff.1 hh).1, hh, hn, hm, hs, ht⟩
theorem OwFl.keep_ (h : OwFl sz e w lo A c n zs) (hk : ∀ a, A = some a → w'.heap[a.block]? = w.heap[a.block]?) : OwFl sz e w' lo A c n zs := by
 refine ⟨h.len, h.owns.1, ?_⟩
 rcases h.owns.2 with hv | ⟨g, cap, cur, hv, hb, hh, r⟩
 · exact .inl hv
 · have hA : A = some ⟨g, 0, none⟩ := by injection hv
   exact .inr ⟨g, cap, cur, hv, hb, (hk _ hA).trans hh, r⟩
theorem OwFl.blk (h : OwFl sz e w lo A c n zs) {a : Addr} (ha : A = some a) : lo ≤ a.block ∧ a.block < w.heap.size := by
 rcases h.form with ⟨h1, _⟩ | ⟨g, cur, h1, h2, h3, _⟩
 · rw [h1] at ha; cases ha
 · rw [h1] at ha; cases ha; exact ⟨h2, h3⟩
theorem OwFl.cell (h : OwFl sz e w lo A c n zs) {i : Nat} (hi : i < n * sz) : ∃ g z, A = some ⟨g, 0, none⟩ ∧ lo ≤ g ∧ g < w.heap.size ∧ w.cell? ⟨g, i, none⟩ = some (.int .i64 z) ∧ ∀ i, w.frozen? ⟨g, i, none⟩ = false := by
 rcases h.form with ⟨_, h1, _⟩ | ⟨g, cur, h1, h2, h3, h4, _, _, _, h5⟩
 · subst h1; simp at hi
 · have hz : i < zs.length := by rw [← h.len]; exact hi
   have h6 : cur[i]? = some (.int .i64 zs[i]) := by
     have h7 := congrArg (fun l : List Value => l[i]?) h5
     simp only [List.getElem?_take, if_pos hi, FI, List.getElem?_map, List.getElem?_eq_getElem hz, Option.map_some] at h7
     rw [← h7]; simp
   refine ⟨g, zs[i], h1, h2, h3, ?_, fun i => by simp [World.frozen?, h4]⟩
   simp [World.cell?, h4, h6]
theorem marks_app : ∀ (a b : Nat) (k : Int), marks k (a + b) = marks k a ++ marks (k + a) b
 | 0, b, k => by simp [marks]
 | a + 1, b, k => by
   rw [show a + 1 + b = (a + b) + 1 from by omega, marks, marks, marks_app a b (k + 1), List.cons_append]
   congr 3; omega
theorem OwFl.put {z0 : List Int} {k : Int} {j g : Nat} (h : OwFl sz e w lo (some ⟨g, 0, none⟩) c n (marks k (j * sz) ++ z0.drop (j * sz))) (hl : n * sz = z0.length) (hj : j < n) :
   OwFl sz e (setCells w g (j * sz) (FI (marks (k + (j : Int) * sz) sz))) lo (some ⟨g, 0, none⟩) c n (marks k ((j + 1) * sz) ++ z0.drop ((j + 1) * sz)) := by
 have h1 : (j + 1) * sz = j * sz + sz := Nat.succ_mul j sz
 have h2 : j * sz + sz ≤ n * sz := by rw [← h1]; exact Nat.mul_le_mul_right _ hj
 have hm : ∀ (a : Int) (b : Nat), (FI (marks a b)).length = b := fun a b => by simp [FI, marks_len]
 have hle : j * sz + (FI (marks (k + (j : Int) * sz) sz)).length ≤ (FI (marks k (j * sz) ++ z0.drop (j * sz))).length := by
   rw [hm]
   simp only [FI, List.length_map, List.length_append, marks_len, List.length_drop]
   omega
 have := ownsRow_sets _ _ w h.owns hle
 rw [setMany_eq _ _ _ hle, hm] at this
 have e1 : (FI (marks k (j * sz) ++ z0.drop (j * sz))).take (j * sz) = FI (marks k (j * sz)) := by
   unfold FI
   rw [List.map_append, List.take_append_of_le_length (by simp [marks_len]), List.take_of_length_le (by simp [marks_len])]
 have e2 : (FI (marks k (j * sz) ++ z0.drop (j * sz))).drop (j * sz + sz) = FI (z0.drop ((j + 1) * sz)) := by
   unfold FI
   rw [List.map_append, List.drop_append, List.drop_of_length_le (by simp [marks_len]), List.length_map, marks_len, List.nil_append, ← List.map_drop, List.drop_drop, h1]
   congr 2; omega
 rw [e1, e2] at this
 refine ⟨by simp only [List.length_append, marks_len, List.length_drop]; omega, ?_⟩
 have e3 : FI (marks k ((j + 1) * sz) ++ z0.drop ((j + 1) * sz)) = FI (marks k (j * sz)) ++ FI (marks (k + (j : Int) * sz) sz) ++ FI (z0.drop ((j + 1) * sz)) := by
   rw [h1, marks_app]
   simp [FI]
 rw [e3]
 exact this
theorem setCells_ch {S : Nat → Prop} {w0 : World} {g : Nat} : ∀ {vs : List Value} {w : World} {i : Nat}, Ch S w0 w → S g → Ch S w0 (setCells w g i vs)
 | [], _, _, h, _ => h
 | v :: vs, w, i, h, hg => setCells_ch (vs := vs) (h.setCell (p := ⟨g, i, none⟩) (Or.inl hg) v) hg
theorem OwFl.rd (h : OwFl sz e w lo A c n zs) : Rd w lo A c sz n (FI zs) := Rd.of_own h.owns
theorem Rd.marks {k : Int} {N : Nat} (h : Rd w lo A c sz n (FI (Go.Proofs.YtnnoiagommiapaaGreat.marks k N))) (hn : 0 < n) : ∃ g off, A = some ⟨g, off, none⟩ ∧ ∀ i, i < N → w.cell? ⟨g, off + i, none⟩ = some (.int .i64 (k + (i : Nat))) := by
 cases A with
 | none => have := h.nil rfl; have := h.le; omega
 | some a =>
   obtain ⟨h1, h2, h3, h4⟩ := h.cells a rfl hn
   obtain ⟨g, off, spot⟩ := a
   dsimp only at h1 h2 h3 h4
   subst h1
   refine ⟨g, off, rfl, fun i hi => h4 i _ ?_⟩
   simp only [FI, List.getElem?_map, marks_at N i k hi, Option.map_some]
end
def Sw.Ent.ints (x : Sw.Ent) : List Int := [x.kind, x.ticket, x.who, x.price]
def Sw.Deal.ints (x : Sw.Deal) : List Int := [x.ticket, x.seller, x.price, x.buyer, x.due]
def Sw.Req.ints (x : Sw.Req) : List Int := [x.user, x.n, x.kind, x.ticket, x.who, x.price]
end Go.Proofs.YtnnoiagommiapaaGreat
namespace Go.Proofs.YtnnoiagommiapaaGreat
open Go.RowKit Go
set_option maxHeartbeats 1000000
inductive AllocSt (τ : Nat → Nat) (t : Nat) (w : World) (lo n : Nat) : Bool → Value → Prop
 | none (v : Value) : AllocSt τ t w lo n false v
 | done (g : Nat) (hg : lo ≤ g) (hl : Lb w g n) (ht : τ g = t) : AllocSt τ t w lo n true (.pointer (some ⟨g, 0, none⟩))
inductive BuildSt (f : Value → Value) (u : Value) : Bool → Bool → Value → Prop
 | none (r : Bool) (v : Value) : BuildSt f u r false v
 | done : BuildSt f u true true (f u)
section
variable {τ : Nat → Nat} {t s : Nat} {w w' : World} {lo n : Nat} {r : Bool} {u : Value} {A : Option Addr}
theorem AllocSt.alloc {o : Obj} (h : AllocSt τ t w lo n r u) : AllocSt (glue τ w.heap.size (fun _ => s)) t (w.alloc o) lo n r u := by
 cases h with
 | none => exact .none _
 | done g hg hl ht => exact .done g hg hl.alloc (by unfold glue; rw [if_pos hl.lt]; exact ht)
theorem AllocSt.ex (h : AllocSt τ t w lo n r u) (hb : Ex w w') : AllocSt (glue τ w.heap.size (fun _ => s)) t w' lo n r u := by
 cases h with
 | none => exact .none _
 | done g hg hl ht => exact .done g hg (hl.ex hb) (by unfold glue; rw [if_pos hl.lt]; exact ht)
theorem AllocSt.app (h : AllocSt τ t w lo n r u) (hb : Ch (atA A) w w') (ht : ∀ a, A = some a → τ a.block = s) (hne : t ≠ s) : AllocSt (glue τ w.heap.size (fun _ => s)) t w' lo n r u := by
 cases h with
 | none => exact .none _
 | done g hg hl hτ =>
   refine .done g hg (Lb.chk hb hl ?_) (by unfold glue; rw [if_pos hl.lt]; exact hτ)
   rintro ⟨a, ha, hi⟩
   exact hne (by rw [← hτ, hi]; exact ht a ha)
theorem BuildSt.chg {f : Value → Value} {u u' : Value} {m : Bool} {v : Value} (h : BuildSt f u false m v) (r : Bool) : BuildSt f u' r m v := by
 cases h with
 | none => exact .none _ _
end
def gv0 (h : Sw.Head) : GV := ⟨h, none, 0, 0⟩
structure WN (τ : Nat → Nat) (w : World) (lo : Nat) (F : Option Addr) (Fc Fn : Nat) (aL : Option Addr) (aLc aLn : Nat) (aP : Option Addr) (aPc aPn : Nat) (aD : Option Addr) (aDc aDn : Nat) (aN : Option Addr) (aNc aNn : Nat) (aS : Option Addr) (aSc aSn : Nat) (G : Option Addr) (Gc Gn : Nat) (x : Sw.World) : Prop where
 first : OwTI τ 6 w lo F Fc Fn x.first
 mkt : OwM τ w lo aL aLc aLn aP aPc aPn aD aDc aDn aN aNc aNn aS aSc aSn x.market
 gates : OwTG τ 8 w lo G Gc Gn (x.gates.map fun g => gv0 g.head)
 gone : ∀ g ∈ x.gates, g.done = []
 lines : x.lines = []
 bag : x.bag = []
section
variable {τ τ' : Nat → Nat} {w w' : World} {lo lo' Fc Fn Gc Gn k : Nat} {F G : Option Addr}
theorem WN.rw_ {aL : Option Addr} {aLc aLn : Nat} {aP : Option Addr} {aPc aPn : Nat} {aD : Option Addr} {aDc aDn : Nat} {aN : Option Addr} {aNc aNn : Nat} {aS : Option Addr} {aSc aSn : Nat} {x : Sw.World} (h : WN τ w lo F Fc Fn aL aLc aLn aP aPc aPn aD aDc aDn aN aNc aNn aS aSc aSn G Gc Gn x) : RW w lo F Fc Fn aL aLc aLn aP aPc aPn aD aDc aDn aN aNc aNn aS aSc aSn none 0 0 G Gc Gn none 0 0 x := by
 refine ⟨h.first.rs, h.mkt.rm, ?_, ⟨_, h.gates.rs, ?_, ?_⟩, ⟨[], ?_, ?_, ?_⟩⟩
 · rw [h.lines]; exact (Ow.nil (enc := Sw.Req.enc) (sz := 6) (e := 82) _ lo).rs
 · rw [h.gates.ow.1, List.length_map]
 · intro j v g hv hg
   rw [List.getElem?_map, hg] at hv
   obtain rfl : gv0 g.head = v := by simpa using hv
   refine ⟨rfl, ?_⟩
   rw [h.gone g (List.mem_of_getElem? hg)]
   exact (Ow.nil (enc := encI) (sz := 1) (e := 3) _ lo).rs
 · exact (Ow.nil (enc := XV.enc) (sz := 5) (e := 92) _ lo).rs
 · rw [h.bag]; rfl
 · intro j v m hv; simp at hv
theorem WN.keepF {aL : Option Addr} {aLc aLn : Nat} {aP : Option Addr} {aPc aPn : Nat} {aD : Option Addr} {aDc aDn : Nat} {aN : Option Addr} {aNc aNn : Nat} {aS : Option Addr} {aSc aSn : Nat} {x : Sw.World} (h : WN τ w lo F Fc Fn aL aLc aLn aP aPc aPn aD aDc aDn aN aNc aNn aS aSc aSn G Gc Gn x) (hk : KF lo w w') : WN τ w' lo F Fc Fn aL aLc aLn aP aPc aPn aD aDc aDn aN aNc aNn aS aSc aSn G Gc Gn x := ⟨h.1.keepF hk, h.2.keepF hk, h.3.keepF hk, h.4, h.5, h.6⟩
theorem WN.less {aL : Option Addr} {aLc aLn : Nat} {aP : Option Addr} {aPc aPn : Nat} {aD : Option Addr} {aDc aDn : Nat} {aN : Option Addr} {aNc aNn : Nat} {aS : Option Addr} {aSc aSn : Nat} {x : Sw.World} (h : WN τ w lo F Fc Fn aL aLc aLn aP aPc aPn aD aDc aDn aN aNc aNn aS aSc aSn G Gc Gn x) (hl : lo' ≤ lo) : WN τ w lo' F Fc Fn aL aLc aLn aP aPc aPn aD aDc aDn aN aNc aNn aS aSc aSn G Gc Gn x := ⟨h.1.less hl, h.2.less hl, h.3.less hl, h.4, h.5, h.6⟩
end
end Go.Proofs.YtnnoiagommiapaaGreat
