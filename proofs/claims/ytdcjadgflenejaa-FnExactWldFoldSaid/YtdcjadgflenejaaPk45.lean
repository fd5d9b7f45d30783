/-
  Texts joined: LawMk, LawMkL.
-/
import Derived.Test.YtdcjadgflenejaaPk44
import Derived.Test.YtdcjadgflenejaaPk14
namespace Go.Proofs.Ytdcjadgflenejaa
set_option maxRecDepth 100000
set_option linter.unusedSimpArgs false
set_option linter.unusedVariables false
open Go.RowKit Go
set_option maxHeartbeats 1000000

def FI (zs : List Int) : List Value := zs.map (Value.int .i64)
/-- An owned slice of structs of sz numbers, by its cells. -/
structure OwFl (sz : Nat) (e : TypeId) (w : World) (lo : Nat) (A : Option Addr) (c n : Nat) (zs : List Int) : Prop where
  len : n * sz = zs.length
  owns : w.ownsRow lo e sz (.slice A n c) n (FI zs)
section
variable {sz : Nat} {e : TypeId} {w w' : World} {lo lo' c n k : Nat} {A : Option Addr} {zs : List Int}
theorem OwFl.of {α : Type} {enc : α → List Value} {f : α → List Int} {xs : List α} (h : Ow enc sz e w lo A c n xs) (hf : ∀ x, enc x = FI (f x)) (hl : ∀ x, (f x).length = sz) : OwFl sz e w lo A c n (xs.flatMap f) := by
  have e1 : xs.flatMap enc = FI (xs.flatMap f) := by
    clear h
    induction xs with
    | nil => rfl
    | cons x xs ih => rw [List.flatMap_cons, List.flatMap_cons, ih, hf]; simp [FI]
  have e2 : (xs.flatMap f).length = xs.length * sz := by
    clear h e1
    induction xs with
    | nil => simp
    | cons x xs ih => simp only [List.flatMap_cons, List.length_append, hl, ih, List.length_cons, Nat.succ_mul]; omega
  exact ⟨by rw [e2, h.1], by rw [← e1]; exact h.2⟩
theorem OwFl.form (h : OwFl sz e w lo A c n zs) : (A = none ∧ n = 0 ∧ c = 0) ∨ ∃ g cur, A = some ⟨g, 0, none⟩ ∧ lo ≤ g ∧ g < w.heap.size ∧ w.heap[g]? = some (.cells cur e (0, 0)) ∧ n ≤ c ∧ c ≤ maxLen ∧ cur.size = c * sz ∧ cur.toList.take (n * sz) = FI zs := by
  rcases h.owns.2 with ⟨hv, h0⟩ | ⟨g, cap, cur, hv, hb, hh, hn, hm, hs, ht⟩
  · injection hv with h1 h2 h3; exact .inl ⟨h1, h2, h3⟩
  · injection hv with h1 h2 h3
    subst h3
    exact .inr ⟨g, cur, h1, hb, (Array.getElem?_eq_some_iff.1 hh).1, hh, hn, hm, hs, ht⟩
theorem OwFl.keep_ (h : OwFl sz e w lo A c n zs) (hk : ∀ a, A = some a → w'.heap[a.block]? = w.heap[a.block]?) : OwFl sz e w' lo A c n zs := by
  refine ⟨h.len, h.owns.1, ?_⟩
  rcases h.owns.2 with hv | ⟨g, cap, cur, hv, hb, hh, r⟩
  · exact .inl hv
  · have hA : A = some ⟨g, 0, none⟩ := by injection hv
    exact .inr ⟨g, cap, cur, hv, hb, (hk _ hA).trans hh, r⟩
theorem OwFl.blk (h : OwFl sz e w lo A c n zs) {a : Addr} (ha : A = some a) : lo ≤ a.block ∧ a.block < w.heap.size := by
  rcases h.form with ⟨h1, _⟩ | ⟨g, cur, h1, h2, h3, _⟩
  · rw [h1] at ha; cases ha
  · rw [h1] at ha; cases ha; exact ⟨h2, h3⟩
theorem OwFl.cell (h : OwFl sz e w lo A c n zs) {i : Nat} (hi : i < n * sz) : ∃ g z, A = some ⟨g, 0, none⟩ ∧ lo ≤ g ∧ g < w.heap.size ∧ w.cell? ⟨g, i, none⟩ = some (.int .i64 z) ∧ ∀ i, w.frozen? ⟨g, i, none⟩ = false := by
  rcases h.form with ⟨_, h1, _⟩ | ⟨g, cur, h1, h2, h3, h4, _, _, _, h5⟩
  · subst h1; simp at hi
  · have hz : i < zs.length := by rw [← h.len]; exact hi
    have h6 : cur[i]? = some (.int .i64 zs[i]) := by
      have h7 := congrArg (fun l : List Value => l[i]?) h5
      simp only [List.getElem?_take, if_pos hi, FI, List.getElem?_map, List.getElem?_eq_getElem hz, Option.map_some] at h7
      rw [← h7]; simp
    refine ⟨g, zs[i], h1, h2, h3, ?_, fun i => by simp [World.frozen?, h4]⟩
    simp [World.cell?, h4, h6]
theorem marks_app : ∀ (a b : Nat) (k : Int), marks k (a + b) = marks k a ++ marks (k + a) b
  | 0, b, k => by simp [marks]
  | a + 1, b, k => by
    rw [show a + 1 + b = (a + b) + 1 from by omega, marks, marks, marks_app a b (k + 1), List.cons_append]
    congr 3; omega
theorem OwFl.put {z0 : List Int} {k : Int} {j g : Nat} (h : OwFl sz e w lo (some ⟨g, 0, none⟩) c n (marks k (j * sz) ++ z0.drop (j * sz))) (hl : n * sz = z0.length) (hj : j < n) :
    OwFl sz e (setCells w g (j * sz) (FI (marks (k + (j : Int) * sz) sz))) lo (some ⟨g, 0, none⟩) c n (marks k ((j + 1) * sz) ++ z0.drop ((j + 1) * sz)) := by
  have h1 : (j + 1) * sz = j * sz + sz := Nat.succ_mul j sz
  have h2 : j * sz + sz ≤ n * sz := by rw [← h1]; exact Nat.mul_le_mul_right _ hj
  have hm : ∀ (a : Int) (b : Nat), (FI (marks a b)).length = b := fun a b => by simp [FI, marks_len]
  have hle : j * sz + (FI (marks (k + (j : Int) * sz) sz)).length ≤ (FI (marks k (j * sz) ++ z0.drop (j * sz))).length := by
    rw [hm]
    simp only [FI, List.length_map, List.length_append, marks_len, List.length_drop]
    omega
  have := ownsRow_sets _ _ w h.owns hle
  rw [setMany_eq _ _ _ hle, hm] at this
  have e1 : (FI (marks k (j * sz) ++ z0.drop (j * sz))).take (j * sz) = FI (marks k (j * sz)) := by
    unfold FI
    rw [List.map_append, List.take_append_of_le_length (by simp [marks_len]), List.take_of_length_le (by simp [marks_len])]
  have e2 : (FI (marks k (j * sz) ++ z0.drop (j * sz))).drop (j * sz + sz) = FI (z0.drop ((j + 1) * sz)) := by
    unfold FI
    rw [List.map_append, List.drop_append, List.drop_of_length_le (by simp [marks_len]), List.length_map, marks_len, List.nil_append, ← List.map_drop, List.drop_drop, h1]
    congr 2; omega
  rw [e1, e2] at this
  refine ⟨by simp only [List.length_append, marks_len, List.length_drop]; omega, ?_⟩
  have e3 : FI (marks k ((j + 1) * sz) ++ z0.drop ((j + 1) * sz)) = FI (marks k (j * sz)) ++ FI (marks (k + (j : Int) * sz) sz) ++ FI (z0.drop ((j + 1) * sz)) := by
    rw [h1, marks_app]
    simp [FI]
  rw [e3]
  exact this
theorem setCells_ch {S : Nat → Prop} {w0 : World} {g : Nat} : ∀ {vs : List Value} {w : World} {i : Nat}, Ch S w0 w → S g → Ch S w0 (setCells w g i vs)
  | [], _, _, h, _ => h
  | v :: vs, w, i, h, hg => setCells_ch (vs := vs) (h.setCell (p := ⟨g, i, none⟩) (Or.inl hg) v) hg
theorem OwFl.rd (h : OwFl sz e w lo A c n zs) : Rd w lo A c sz n (FI zs) := Rd.of_own h.owns
/-- What marks may be read. -/
theorem Rd.marks {k : Int} {N : Nat} (h : Rd w lo A c sz n (FI (Go.Proofs.Ytdcjadgflenejaa.marks k N))) (hn : 0 < n) : ∃ g off, A = some ⟨g, off, none⟩ ∧ ∀ i, i < N → w.cell? ⟨g, off + i, none⟩ = some (.int .i64 (k + (i : Nat))) := by
  cases A with
  | none => have := h.nil rfl; have := h.le; omega
  | some a =>
    obtain ⟨h1, h2, h3, h4⟩ := h.cells a rfl hn
    obtain ⟨g, off, spot⟩ := a
    dsimp only at h1 h2 h3 h4
    subst h1
    refine ⟨g, off, rfl, fun i hi => h4 i _ ?_⟩
    simp only [FI, List.getElem?_map, marks_at N i k hi, Option.map_some]
end
def Sw.Ent.ints (x : Sw.Ent) : List Int := [x.kind, x.ticket, x.who, x.price]
def Sw.Deal.ints (x : Sw.Deal) : List Int := [x.ticket, x.seller, x.price, x.buyer, x.due]
def Sw.Req.ints (x : Sw.Req) : List Int := [x.user, x.n, x.kind, x.ticket, x.who, x.price]

theorem markEnt_c (A : Option Addr) (c n lo : Nat) (e : TypeId) (zs : List Int) (k : Int) (w : World) (h : OwFl 4 e w lo A c n zs) (hk0 : 0 ≤ k) (hk1 : k ≤ 67108864) (hn : n ≤ 4194304) : Calls Try.prog 30 #[.slice A n c, .int .i64 k] w fun E w' => E = .returned (.int .i64 (k + (n : Int) * 4)) ∧ OwFl 4 e w' lo A c n (marks k (n * 4)) ∧ Ch (atA A) w w' := by

  go_enter Try.func30, Try.ntmps30
  go_wp2_with fail
  go_loopw [5, 1] (fun i kk wr => ∃ j : Nat, j ≤ n ∧ i = .int .i64 j ∧ kk = .int .i64 (k + (j : Int) * 4) ∧ Ch (atA A) w wr ∧ OwFl 4 e wr lo A c n (marks k (j * 4) ++ zs.drop (j * 4))) (fun i _ _ => n - (intOf i).toNat)
  case atStart => exact ⟨0, Nat.zero_le _, rfl, by simp, Ch.refl _ _, by simpa [marks] using h⟩
  case round =>
    obtain ⟨j, hj, rfl, rfl, hb2, hrel⟩ := hrel
    by_cases hlt : j < n
    · obtain ⟨g0, z0, hA0, hlo0, hlt0, q0, hfr⟩ := OwFl.cell hrel (i := j * 4) (by omega)
      subst hA0
      obtain ⟨g1, z1, hA1, _, _, q1, _⟩ := OwFl.cell hrel (i := j * 4 + 1) (by omega); cases hA1
      obtain ⟨g2, z2, hA2, _, _, q2, _⟩ := OwFl.cell hrel (i := j * 4 + 2) (by omega); cases hA2
      obtain ⟨g3, z3, hA3, _, _, q3, _⟩ := OwFl.cell hrel (i := j * 4 + 3) (by omega); cases hA3
      have Hs := Lib.hid (OwFl.put hrel h.len hlt)
      have Hb := Lib.hid hb2
      clear hrel hb2
      go_wp2_with fail
      go_roundw
      case rel =>
        refine ⟨j + 1, by omega, by go_num, int_i (by omega), ?_, ?_⟩
        · exact (setCells_ch (vs := FI (marks (k + (j : Int) * 4) 4)) Hb.out ⟨⟨g0, 0, none⟩, rfl, rfl⟩)
        · exact Hs.out
      case measure => simp [intOf]; omega
    · have Hrel := Lib.hid hrel; clear hrel
      go_wp2_with fail
      go_ret
      obtain rfl : j = n := by omega
      have := Hrel.out
      rw [List.drop_of_length_le (by have := h.len; omega), List.append_nil] at this
      exact ⟨rfl, this, hb2⟩

theorem markDeal_c (A : Option Addr) (c n lo : Nat) (e : TypeId) (zs : List Int) (k : Int) (w : World) (h : OwFl 5 e w lo A c n zs) (hk0 : 0 ≤ k) (hk1 : k ≤ 67108864) (hn : n ≤ 4194304) : Calls Try.prog 31 #[.slice A n c, .int .i64 k] w fun E w' => E = .returned (.int .i64 (k + (n : Int) * 5)) ∧ OwFl 5 e w' lo A c n (marks k (n * 5)) ∧ Ch (atA A) w w' := by

  go_enter Try.func31, Try.ntmps31
  go_wp2_with fail
  go_loopw [5, 1] (fun i kk wr => ∃ j : Nat, j ≤ n ∧ i = .int .i64 j ∧ kk = .int .i64 (k + (j : Int) * 5) ∧ Ch (atA A) w wr ∧ OwFl 5 e wr lo A c n (marks k (j * 5) ++ zs.drop (j * 5))) (fun i _ _ => n - (intOf i).toNat)
  case atStart => exact ⟨0, Nat.zero_le _, rfl, by simp, Ch.refl _ _, by simpa [marks] using h⟩
  case round =>
    obtain ⟨j, hj, rfl, rfl, hb2, hrel⟩ := hrel
    by_cases hlt : j < n
    · obtain ⟨g0, z0, hA0, hlo0, hlt0, q0, hfr⟩ := OwFl.cell hrel (i := j * 5) (by omega)
      subst hA0
      obtain ⟨g1, z1, hA1, _, _, q1, _⟩ := OwFl.cell hrel (i := j * 5 + 1) (by omega); cases hA1
      obtain ⟨g2, z2, hA2, _, _, q2, _⟩ := OwFl.cell hrel (i := j * 5 + 2) (by omega); cases hA2
      obtain ⟨g3, z3, hA3, _, _, q3, _⟩ := OwFl.cell hrel (i := j * 5 + 3) (by omega); cases hA3
      obtain ⟨g4, z4, hA4, _, _, q4, _⟩ := OwFl.cell hrel (i := j * 5 + 4) (by omega); cases hA4
      have Hs := Lib.hid (OwFl.put hrel h.len hlt)
      have Hb := Lib.hid hb2
      clear hrel hb2
      go_wp2_with fail
      go_roundw
      case rel =>
        refine ⟨j + 1, by omega, by go_num, int_i (by omega), ?_, ?_⟩
        · exact (setCells_ch (vs := FI (marks (k + (j : Int) * 5) 5)) Hb.out ⟨⟨g0, 0, none⟩, rfl, rfl⟩)
        · exact Hs.out
      case measure => simp [intOf]; omega
    · have Hrel := Lib.hid hrel; clear hrel
      go_wp2_with fail
      go_ret
      obtain rfl : j = n := by omega
      have := Hrel.out
      rw [List.drop_of_length_le (by have := h.len; omega), List.append_nil] at this
      exact ⟨rfl, this, hb2⟩

theorem heldEnt_c (A : Option Addr) (c n lo : Nat) (k : Int) (w : World) (h : Rd w lo A c 4 n (FI (marks k (n * 4)))) (hk0 : 0 ≤ k) (hk1 : k ≤ 67108864) (hn : n ≤ 4194304) : Calls Try.prog 32 #[.slice A n c, .int .i64 k] w fun E w' => E = .returned (.int .i64 (k + (n : Int) * 4)) ∧ w = w' := by

  have hle := h.le
  go_enter Try.func32, Try.ntmps32
  go_wp2
  go_loop [5, 1] (fun i kk => ∃ j : Nat, j ≤ n ∧ i = .int .i64 j ∧ kk = .int .i64 (k + (j : Int) * 4)) (fun i _ => n - (intOf i).toNat)
  case atStart => exact ⟨0, Nat.zero_le _, rfl, by simp⟩
  case round =>
    obtain ⟨j, hj, rfl, rfl⟩ := hrel
    by_cases hlt : j < n
    · obtain ⟨g, off, rfl, hq⟩ := Rd.marks h (by omega)
      have q0 := hq (j * 4 + 0) (by omega); rw [show off + (j * 4 + 0) = off + j * 4 from by omega] at q0
      have q1 := hq (j * 4 + 1) (by omega); rw [show off + (j * 4 + 1) = off + j * 4 + 1 from by omega] at q1
      have q2 := hq (j * 4 + 2) (by omega); rw [show off + (j * 4 + 2) = off + j * 4 + 2 from by omega] at q2
      have q3 := hq (j * 4 + 3) (by omega); rw [show off + (j * 4 + 3) = off + j * 4 + 3 from by omega] at q3
      have f0 : k + ((j * 4 + 0 : Nat) : Int) = k + (j : Int) * 4 := by omega
      rw [f0] at q0
      clear f0
      have f1 : k + ((j * 4 + 1 : Nat) : Int) = k + (j : Int) * 4 + 1 := by omega
      rw [f1] at q1
      clear f1
      have f2 : k + ((j * 4 + 2 : Nat) : Int) = k + (j : Int) * 4 + 1 + 1 := by omega
      rw [f2] at q2
      clear f2
      have f3 : k + ((j * 4 + 3 : Nat) : Int) = k + (j : Int) * 4 + 1 + 1 + 1 := by omega
      rw [f3] at q3
      clear f3
      clear hq
      go_wp2
      go_round
      case rel => exact ⟨j + 1, by omega, by go_num, int_i (by omega)⟩
      case measure => simp [intOf]; omega
    · go_wp2
      go_ret
      obtain rfl : j = n := by omega
      exact ⟨rfl, rfl⟩

theorem heldDeal_c (A : Option Addr) (c n lo : Nat) (k : Int) (w : World) (h : Rd w lo A c 5 n (FI (marks k (n * 5)))) (hk0 : 0 ≤ k) (hk1 : k ≤ 67108864) (hn : n ≤ 4194304) : Calls Try.prog 34 #[.slice A n c, .int .i64 k] w fun E w' => E = .returned (.int .i64 (k + (n : Int) * 5)) ∧ w = w' := by

  have hle := h.le
  go_enter Try.func34, Try.ntmps34
  go_wp2
  go_loop [5, 1] (fun i kk => ∃ j : Nat, j ≤ n ∧ i = .int .i64 j ∧ kk = .int .i64 (k + (j : Int) * 5)) (fun i _ => n - (intOf i).toNat)
  case atStart => exact ⟨0, Nat.zero_le _, rfl, by simp⟩
  case round =>
    obtain ⟨j, hj, rfl, rfl⟩ := hrel
    by_cases hlt : j < n
    · obtain ⟨g, off, rfl, hq⟩ := Rd.marks h (by omega)
      have q0 := hq (j * 5 + 0) (by omega); rw [show off + (j * 5 + 0) = off + j * 5 from by omega] at q0
      have q1 := hq (j * 5 + 1) (by omega); rw [show off + (j * 5 + 1) = off + j * 5 + 1 from by omega] at q1
      have q2 := hq (j * 5 + 2) (by omega); rw [show off + (j * 5 + 2) = off + j * 5 + 2 from by omega] at q2
      have q3 := hq (j * 5 + 3) (by omega); rw [show off + (j * 5 + 3) = off + j * 5 + 3 from by omega] at q3
      have q4 := hq (j * 5 + 4) (by omega); rw [show off + (j * 5 + 4) = off + j * 5 + 4 from by omega] at q4
      have f0 : k + ((j * 5 + 0 : Nat) : Int) = k + (j : Int) * 5 := by omega
      rw [f0] at q0
      clear f0
      have f1 : k + ((j * 5 + 1 : Nat) : Int) = k + (j : Int) * 5 + 1 := by omega
      rw [f1] at q1
      clear f1
      have f2 : k + ((j * 5 + 2 : Nat) : Int) = k + (j : Int) * 5 + 1 + 1 := by omega
      rw [f2] at q2
      clear f2
      have f3 : k + ((j * 5 + 3 : Nat) : Int) = k + (j : Int) * 5 + 1 + 1 + 1 := by omega
      rw [f3] at q3
      clear f3
      have f4 : k + ((j * 5 + 4 : Nat) : Int) = k + (j : Int) * 5 + 1 + 1 + 1 + 1 := by omega
      rw [f4] at q4
      clear f4
      clear hq
      go_wp2
      go_round
      case rel => exact ⟨j + 1, by omega, by go_num, int_i (by omega)⟩
      case measure => simp [intOf]; omega
    · go_wp2
      go_ret
      obtain rfl : j = n := by omega
      exact ⟨rfl, rfl⟩

end Go.Proofs.Ytdcjadgflenejaa

namespace Go.Proofs.Ytdcjadgflenejaa
set_option maxRecDepth 100000
set_option linter.unusedSimpArgs false
set_option linter.unusedVariables false
open Go.RowKit Go
set_option maxHeartbeats 4000000

theorem markLine_c (A : Option Addr) (c n lo : Nat) (e : TypeId) (zs : List Int) (k : Int) (w : World) (h : OwFl 6 e w lo A c n zs) (hk0 : 0 ≤ k) (hk1 : k ≤ 67108864) (hn : n ≤ 4194304) : Calls Try.prog 13 #[.slice A n c, .int .i64 k] w fun E w' => E = .returned (.int .i64 (k + (n : Int) * 6)) ∧ OwFl 6 e w' lo A c n (marks k (n * 6)) ∧ Ch (atA A) w w' := by

  go_enter Try.func13, Try.ntmps13
  go_wp2_with fail
  go_loopw [5, 1] (fun i kk wr => ∃ j : Nat, j ≤ n ∧ i = .int .i64 j ∧ kk = .int .i64 (k + (j : Int) * 6) ∧ Ch (atA A) w wr ∧ OwFl 6 e wr lo A c n (marks k (j * 6) ++ zs.drop (j * 6))) (fun i _ _ => n - (intOf i).toNat)
  case atStart => exact ⟨0, Nat.zero_le _, rfl, by simp, Ch.refl _ _, by simpa [marks] using h⟩
  case round =>
    obtain ⟨j, hj, rfl, rfl, hb2, hrel⟩ := hrel
    by_cases hlt : j < n
    · obtain ⟨g0, z0, hA0, hlo0, hlt0, q0, hfr⟩ := OwFl.cell hrel (i := j * 6) (by omega)
      subst hA0
      obtain ⟨g1, z1, hA1, _, _, q1, _⟩ := OwFl.cell hrel (i := j * 6 + 1) (by omega); cases hA1
      obtain ⟨g2, z2, hA2, _, _, q2, _⟩ := OwFl.cell hrel (i := j * 6 + 2) (by omega); cases hA2
      obtain ⟨g3, z3, hA3, _, _, q3, _⟩ := OwFl.cell hrel (i := j * 6 + 3) (by omega); cases hA3
      obtain ⟨g4, z4, hA4, _, _, q4, _⟩ := OwFl.cell hrel (i := j * 6 + 4) (by omega); cases hA4
      obtain ⟨g5, z5, hA5, _, _, q5, _⟩ := OwFl.cell hrel (i := j * 6 + 5) (by omega); cases hA5
      have Hs := Lib.hid (OwFl.put hrel h.len hlt)
      have Hb := Lib.hid hb2
      clear hrel hb2
      go_wp2_with fail
      go_roundw
      case rel =>
        refine ⟨j + 1, by omega, by go_num, int_i (by omega), ?_, ?_⟩
        · exact (setCells_ch (vs := FI (marks (k + (j : Int) * 6) 6)) Hb.out ⟨⟨g0, 0, none⟩, rfl, rfl⟩)
        · exact Hs.out
      case measure => simp [intOf]; omega
    · have Hrel := Lib.hid hrel; clear hrel
      go_wp2_with fail
      go_ret
      obtain rfl : j = n := by omega
      have := Hrel.out
      rw [List.drop_of_length_le (by have := h.len; omega), List.append_nil] at this
      exact ⟨rfl, this, hb2⟩

end Go.Proofs.Ytdcjadgflenejaa

