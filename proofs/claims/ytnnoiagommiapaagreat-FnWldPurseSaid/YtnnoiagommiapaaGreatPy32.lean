/- Texts joined: PtrI. -/
import Derived.Test.YtnnoiagommiapaaGreatPy3
import Derived.Test.YtnnoiagommiapaaGreatPy31
import Derived.Deep.CutBlock
import Derived.Deep.DeepCutAuto
set_option maxRecDepth 100000
set_option linter.unusedSimpArgs false
set_option linter.unusedVariables false
namespace Go.Proofs.YtnnoiagommiapaaGreat
open Go.RowKit Go
set_option maxHeartbeats 8000000
abbrev HeldE (g gD : Nat) (W w : World) : Prop :=
 (∀ b o, ¬ ((⟨b, 0, none⟩ : Addr) = ⟨b - W.heap.size + W.heap.size, 0, none⟩) → ¬ ((⟨b, 0, none⟩ : Addr) = ⟨g, 0, none⟩) → ¬ ((⟨b, 0, none⟩ : Addr) = ⟨gD, 0, none⟩) → w.cell? ⟨b, o, none⟩ = W.cell? ⟨b, o, none⟩) ∧ Ch (fun i => i = g ∨ i = gD) W w
theorem HeldE.of {g gD : Nat} {W w : World} (h : Ch (fun i => i = g ∨ i = gD) W w) : HeldE g gD W w :=
 ⟨fun b o h1 h2 h3 => h.cell (p := ⟨b, o, none⟩) (by simp at h1; show b < _; omega) (by rintro (e | e); exact h2 (by rw [show b = g from e]); exact h3 (by rw [show b = gD from e])), h⟩
theorem HeldE.start (g gD : Nat) (W : World) : HeldE g gD W W.drew := .of (Ch.refl _ _).drew
theorem HeldE.refl (g gD : Nat) (W : World) : HeldE g gD W W := .of (Ch.refl _ _)
theorem HeldE.drew {g gD : Nat} {W w : World} (h : HeldE g gD W w) : HeldE g gD W w.drew := .of h.2.drew
theorem HeldE.alloc {g gD : Nat} {W w : World} (h : HeldE g gD W w) (o : Obj) : HeldE g gD W (w.alloc o) := .of (h.2.alloc o)
theorem HeldE.set {g gD : Nat} {W w : World} {p : Addr} {u : Value} (h : HeldE g gD W w) (hp : p.block = g) : HeldE g gD W (w.setCell p u) := .of (h.2.setCell (.inl (.inl hp)) u)
section
variable {g o n lo : Nat} {τ0 τ : Nat → Nat} {w0 w : World} {aL : Option Addr} {aLc aLn : Nat} {aP : Option Addr} {aPc aPn : Nat} {aD : Option Addr} {aDc aDn : Nat} {aN : Option Addr} {aNc aNn : Nat} {aS : Option Addr} {aSc aSn : Nat} {m : Sw.Mkt}
end
end Go.Proofs.YtnnoiagommiapaaGreat
