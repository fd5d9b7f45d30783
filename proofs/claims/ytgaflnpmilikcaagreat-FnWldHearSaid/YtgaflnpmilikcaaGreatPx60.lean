/- Hints for regions: what waits for an operation, as bits. -/
import Derived.Test.YtgaflnpmilikcaaGreatPx5
set_option maxRecDepth 100000
set_option linter.unusedSimpArgs false
set_option linter.unusedVariables false
namespace Go.Proofs.YtgaflnpmilikcaaGreat
open Go
def bitsB (a : Array Edge) : Nat := a.toList.foldl (fun m e => m ||| 1 <<< e.on) 0
def dpz (ops : Array Oper) (i : Nat) : Nat := idx.foldl (fun m j => match ops[j]? with | some o => if bitsB o.after &&& m = 0 then m else m ||| 1 <<< j | none => m) (1 <<< i)
def rBz (X : List Nat) (ops : Array Oper) (l : Array Bool) (i : Nat) : List Nat := match X with | [] => [] | _ => idx.filter fun j => j != i && !l.getD j true && (dpz ops i).testBit j
section
variable {P : Program} {ops : Array Oper} {Q : Exit → Act → World → Prop} {md : Region.Mode} {S : World → Prop} {X rs rest : List Nat} {i d n : Nat} {v : Value} {oi : Oper} {l : Array Bool} {a b : Act} {w : World}
theorem tkB (LD U : List Nat) (hS : S w) (hp : Y2 ops l LD U = some i := by rfl) (hi : ops[i]? = some oi := by rfl) (hd : oi.dst = some d := by rfl)
  (hw : Region.wanted oi (yielded ops a.tmps) = true := by rfl) (hs : Region.noSelect ops = true := by kernel_rfl) (hf : Region.free md ops l i = true := by kernel_rfl) (hr : (Region.ready md ops l).contains i = true := by kernel_rfl)
  (hl : M3 md ops X (rBz X ops l i) l i = true := by kernel_rfl)
  (hy : ∀ w, S w → (execOp a.eval oi).run P w = .ok (.value v) w := by (intro w hSw; (try dsimp only at hSw); go_simp; (try with_reducible rfl)))
  (hQ : ∀ c a w, Q (.panic c) (a.put (some d) v) w → Q (.panic c) a w := by (exact (fun _ _ _ h => h))) (hb : a.put (some d) v = b := by (simp only [Act.put, List.setIfInBounds_toArray, List.set_cons_zero, List.set_cons_succ]; rfl))
  (h : Cq P md ops Q S X n (l.setIfInBounds i true) b w) : Cq P md ops Q S X (n + 1) l a w :=
 Cq.take i d (rBz X ops l i) hS hi hd hs hf hr hl hw hy hQ hb h
theorem skB (LD U : List Nat) (hS : S w) (hp : Y2 ops l LD U = some i := by rfl) (hi : ops[i]? = some oi := by rfl) (hd : oi.dst = some d := by rfl)
  (hw : Region.wanted oi (yielded ops a.tmps) = false := by rfl) (hs : Region.noSelect ops = true := by kernel_rfl) (hf : Region.free md ops l i = true := by kernel_rfl) (hr : (Region.ready md ops l).contains i = true := by kernel_rfl)
  (hl : M3 md ops X (rBz X ops l i) l i = true := by kernel_rfl)
  (hQ : ∀ c a w, Q (.panic c) (a.put (some d) undef) w → Q (.panic c) a w := by (exact (fun _ _ _ h => h))) (hb : a.put (some d) undef = b := by (simp only [Act.put, List.setIfInBounds_toArray, List.set_cons_zero, List.set_cons_succ]; rfl))
  (h : Cq P md ops Q S X n (l.setIfInBounds i true) b w) : Cq P md ops Q S X (n + 1) l a w :=
 Cq.skip i d (rBz X ops l i) hS hi hd hs hf hr hl hw hQ hb h
end
end Go.Proofs.YtgaflnpmilikcaaGreat
