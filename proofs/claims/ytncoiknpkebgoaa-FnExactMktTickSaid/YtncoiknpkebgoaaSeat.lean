/-
  What this seat's tables say of slices.
-/
import Derived.Test.YtncoiknpkebgoaaProg
import Derived.Test.YtncoiknpkebgoaaOwn
namespace Go.Proofs.Ytncoiknpkebgoaa
set_option maxRecDepth 100000
set_option linter.unusedSimpArgs false
set_option linter.unusedVariables false
open Go.RowKit Go
theorem el_I : ElemOk Try.prog 22 3 1 8 := .mk' (z := .int .i64 0) Try.underlying22 (by kernel_rfl) rfl (by omega)
theorem el_E : ElemOk Try.prog 34 165 4 32 := .mk' (z := .agg #[.int .i64 0, .int .i64 0, .int .i64 0, .int .i64 0]) Try.underlying34 (by kernel_rfl) rfl (by omega)
theorem el_R : ElemOk Try.prog 159 93 3 24 := .mk' (z := .agg #[.int .i64 0, .int .i64 0, .bool false]) Try.underlying159 (by kernel_rfl) rfl (by omega)
abbrev OwI := Ow encI 1 3
abbrev OwE := Ow Sw.Ent.enc 4 165
abbrev OwR := Ow Sw.Row.enc 3 93
theorem one_I (x : Int) : ∀ u ∈ encI x, u.oneCell' = true := by simp [encI, Value.oneCell']
theorem one_E (x : Sw.Ent) : ∀ u ∈ x.enc, u.oneCell' = true := by simp [Sw.Ent.enc, Value.oneCell']
theorem one_R (x : Sw.Row) : ∀ u ∈ x.enc, u.oneCell' = true := by simp [Sw.Row.enc, Value.oneCell']
end Go.Proofs.Ytncoiknpkebgoaa
