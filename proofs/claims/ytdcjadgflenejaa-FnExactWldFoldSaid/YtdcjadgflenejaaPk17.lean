/-
  Texts joined: Plain8.
-/
import Derived.Test.YtdcjadgflenejaaPk16
namespace Go.Proofs.Ytdcjadgflenejaa.Sw
set_option maxRecDepth 100000
set_option linter.unusedSimpArgs false
set_option linter.unusedVariables false
open Go.RowKit (wrap64)

/-! ### who meets -/
def anyFork (a b : List Head) : Bool := a.any fun x => b.any fun y => hedFork x y
theorem forkIn_some {x : Head} {b : List Head} {p : Head × Head} (h : forkIn x b = some p) : p.1 = x ∧ p.2 ∈ b ∧ hedFork p.1 p.2 = true := by
  unfold forkIn at h
  rw [Option.map_eq_some_iff] at h
  obtain ⟨y, hy, rfl⟩ := h
  exact ⟨rfl, List.mem_of_find?_eq_some hy, List.find?_some hy⟩
theorem forkIn_isSome (x : Head) (b : List Head) : (forkIn x b).isSome = b.any fun y => hedFork x y := by
  unfold forkIn
  rw [Option.isSome_map, List.isSome_find?]
theorem findFork (a b : List Head) : (a.findSome? fun x => forkIn x b).isSome = anyFork a b := by
  unfold anyFork
  induction a with
  | nil => rfl
  | cons x a ih =>
    rw [List.findSome?_cons, List.any_cons, ← ih, ← forkIn_isSome]
    cases forkIn x b <;> simp
theorem watMeet_iff {a b : List Head} (ha : watOk a = true) (hb : watOk b = true) : (watMeet a b).isSome = anyFork a b := by
  unfold watMeet
  rw [if_pos (by simp [ha, hb]), findFork]
theorem watMeet_fork {a b : List Head} {p : Head × Head} (h : watMeet a b = some p) : p.1 ∈ a ∧ p.2 ∈ b ∧ hedFork p.1 p.2 = true := by
  unfold watMeet at h
  split at h
  · obtain ⟨x, hx, e⟩ := List.exists_of_findSome?_eq_some h
    obtain ⟨rfl, h2, h3⟩ := forkIn_some e
    exact ⟨hx, h2, h3⟩
  · cases h
theorem watAll_mem {l : List Head} {log : List Ent} (h : watAll l log = true) {x : Head} (hx : x ∈ l) : Of log x := by
  unfold watAll at h
  simp only [Bool.and_eq_true, List.all_eq_true, decide_eq_true_eq] at h
  exact h.2 x hx
theorem watMeet_all {a c : List Head} {log : List Ent} (ha : watAll a log = true) (hc : watAll c log = true) : watMeet a c = none := by
  cases h : watMeet a c with
  | none => rfl
  | some p =>
    obtain ⟨h1, h2, h3⟩ := watMeet_fork h
    rw [Of.nofork (watAll_mem ha h1) (watAll_mem hc h2)] at h3
    cases h3

/-! ### a world at its beginning -/
def newOk (p : List Int) : Bool := monOk p && decide (monSum p ≤ 100000)
theorem wldNew_y {p : List Int} (h : newOk p = true) : wldNew p = ⟨p, ⟨[], p, [], 0, [0, 0, 0, 0, 0], [0, 0, 0, 0, 0]⟩, [], [gatNew, gatNew], []⟩ := by
  unfold newOk at h
  rw [wldNew, if_pos h, mktNew, if_pos h]
theorem wldNew_n {p : List Int} (h : newOk p = false) : wldNew p = worldZ := by
  unfold newOk at h
  rw [wldNew, if_neg (by rw [h]; simp)]
theorem mktNew_y {p : List Int} (h : newOk p = true) : mktNew p = ⟨[], p, [], 0, [0, 0, 0, 0, 0], [0, 0, 0, 0, 0]⟩ := by
  unfold newOk at h
  rw [mktNew, if_pos h]
theorem mktNew_n {p : List Int} (h : newOk p = false) : mktNew p = mktZ := by
  unfold newOk at h
  rw [mktNew, if_neg (by rw [h]; simp)]
theorem newOk_len {p : List Int} (h : newOk p = true) : p.length = 5 := by
  simp only [newOk, Bool.and_eq_true] at h
  exact (monOk_iff.1 h.1).1
theorem wldOk_worldZ : wldOk worldZ = false := by
  simp [wldOk, worldZ, mktOk, mktZ, monOk]
theorem wldOk_new {p : List Int} (h : newOk p = true) : wldOk (wldNew p) = true := by
  simp only [newOk, Bool.and_eq_true, decide_eq_true_eq] at h
  exact wldOk_iff.2 (wldNew_ok h.1 h.2)
theorem wldMoney_new {p : List Int} (h : newOk p = true) : wldMoney (wldNew p) = monSum p := by
  rw [wldNew_y h]
  simp only [newOk, Bool.and_eq_true, decide_eq_true_eq] at h
  have := monSum_bd h.1
  show wrap64 (monSum p + 0) = monSum p
  rw [Int.add_zero]
  unfold wrap64; omega
theorem gatNew_size : gatNew.head.size = 0 := by
  have : hedOf [] = some ⟨0, root [], ownRoot rows0⟩ := rfl
  rw [gatNew, this]
  rfl
end Go.Proofs.Ytdcjadgflenejaa.Sw

