/- Texts joined: Typed, Leaf, Plain3, Frame. -/
import Derived.Test.YtnnoiagommiapaaGreatPy1
import Derived.Test.YtnnoiagommiapaaGreatPy2
import Derived.Test.YtnnoiagommiapaaGreatProg
import Derived.Test.YtnnoiagommiapaaGreatPy4
import Derived.Carry
import Derived.WalkKit
import Derived.ProofKit
import Derived.ChangeSame
import Derived.OpenShut
import Derived.ChangeSlices
import Derived.Deep.Slices
set_option maxRecDepth 100000
set_option linter.unusedSimpArgs false
set_option linter.unusedVariables false
namespace Go.Proofs.YtnnoiagommiapaaGreat
open Go.RowKit Go
theorem Rd.at0 {w0 W : World} {lo c sz n : Nat} {A : Option Addr} {cs : List Value} (h : Rd w0 lo A c sz n cs) (hk : KF lo w0 W) : Rd W 0 A c sz n cs := (h.keep hk).less (Nat.zero_le _)
def Rs {α : Type} (enc : α → List Value) (sz : Nat) (w : World) (lo : Nat) (A : Option Addr) (c n : Nat) (xs : List α) : Prop :=
 n = xs.length ∧ Rd w lo A c sz n (xs.flatMap enc)
section
variable {α : Type} {enc : α → List Value} {sz : Nat} {w w0 W : World} {lo lo' c n : Nat} {A : Option Addr} {xs : List α}
theorem Rs.at0 (h : Rs enc sz w0 lo A c n xs) (hk : KF lo w0 W) : Rs enc sz W 0 A c n xs := ⟨h.1, h.2.at0 hk⟩
theorem Rs.keep (h : Rs enc sz w0 lo A c n xs) (hk : KF lo w0 W) : Rs enc sz W lo A c n xs := ⟨h.1, h.2.keep hk⟩
theorem Rs.less (h : Rs enc sz w0 lo A c n xs) (hl : lo' ≤ lo) : Rs enc sz w0 lo' A c n xs := ⟨h.1, h.2.less hl⟩
theorem flat_get (hsz : ∀ x, (enc x).length = sz) : ∀ (xs : List α) (k j : Nat) (hk : k < xs.length), j < sz → (xs.flatMap enc)[k * sz + j]? = (enc xs[k])[j]? := by
 intro xs
 induction xs with
 | nil => intro k j h; simp at h
 | cons x xs ih =>
   intro k j h hj
   cases k with
   | zero =>
     simp only [List.flatMap_cons, Nat.zero_mul, Nat.zero_add, List.getElem_cons_zero]
     rw [List.getElem?_append_left (by rw [hsz]; exact hj)]
   | succ k =>
     simp only [List.flatMap_cons, List.getElem_cons_succ]
     rw [List.getElem?_append_right (by rw [hsz]; simp only [Nat.succ_mul]; omega)]
     rw [show (k + 1) * sz + j - (enc x).length = k * sz + j from by rw [hsz]; simp only [Nat.succ_mul]; omega]
     exact ih k j (by simpa using h) hj
theorem Rs.at_ (h : Rs enc sz w lo A c n xs) (hsz : ∀ x, (enc x).length = sz) {k : Nat} (hk : k < n) :
   ∃ g off x, A = some ⟨g, off, none⟩ ∧ lo ≤ g ∧ g < w.heap.size ∧ xs.drop k = x :: xs.drop (k + 1) ∧ xs[k]? = some x ∧
     ∀ j u, j < sz → (enc x)[j]? = some u → w.cell? ⟨g, off + (k * sz + j), none⟩ = some u := by
 obtain ⟨rfl, h⟩ := h
 cases A with
 | none => have := h.nil rfl; have := h.le; omega
 | some a =>
   obtain ⟨h1, h2, h3, h4⟩ := h.cells a rfl (by omega)
   obtain ⟨g, off, spot⟩ := a
   dsimp only at h1 h2 h3 h4
   subst h1
   refine ⟨g, off, xs[k], rfl, h2, h3, List.drop_eq_getElem_cons hk, List.getElem?_eq_getElem hk, fun j u hj hu => h4 (k * sz + j) u ?_⟩
   rw [flat_get hsz xs k j hk hj]
   exact hu
end
theorem Rs.new {α : Type} {enc : α → List Value} {sz : Nat} {w : World} {cs : Array Value} {T : TypeId} {g n : Nat} (xs : List α) (hg : g = w.heap.size) (hcs : cs = (xs.flatMap enc).toArray) (hn : n = xs.length)
   (hsz : ∀ x, (enc x).length = sz) (hm : n ≤ 4194304) : Rs enc sz (w.alloc (.cells cs T)) 0 (some ⟨g, 0, none⟩) n n xs := by
 subst hg hcs hn
 refine ⟨rfl, ?_, Nat.le_refl _, (by unfold maxLen; omega), (fun h => by cases h), fun a ha _ => ?_⟩
 · clear hm
   induction xs with
   | nil => simp
   | cons x xs ih => simp only [List.flatMap_cons, List.length_append, hsz, ih, List.length_cons, Nat.succ_mul]; omega
 · obtain rfl := Option.some.inj ha
   refine ⟨rfl, Nat.zero_le _, by simp, fun j u hu => ?_⟩
   simpa using hu
def encI (x : Int) : List Value := [.int .i64 x]
def encB (x : Int) : List Value := [.int .u8 x]
def Sw.Ent.enc (e : Sw.Ent) : List Value := [.int .i64 e.kind, .int .i64 e.ticket, .int .i64 e.who, .int .i64 e.price]
def Sw.Row.enc (r : Sw.Row) : List Value := [.int .i64 r.who, .int .i64 r.face, .bool r.used]
def Sw.Head.enc (h : Sw.Head) : List Value := [.int .i64 h.size, .int .i64 h.log, .int .i64 h.own]
abbrev RI := Rs encI 1
abbrev RB := Rs encB 1
abbrev RE := Rs Sw.Ent.enc 4
abbrev RR := Rs Sw.Row.enc 3
abbrev RH := Rs Sw.Head.enc 3
section
variable {w : World} {lo c n k : Nat} {A : Option Addr}
theorem at_I {xs : List Int} (h : RI w lo A c n xs) (hk : k < n) :
   ∃ g off x, A = some ⟨g, off, none⟩ ∧ lo ≤ g ∧ g < w.heap.size ∧ xs.drop k = x :: xs.drop (k + 1) ∧ xs[k]? = some x ∧ w.cell? ⟨g, off + k, none⟩ = some (.int .i64 x) := by
 obtain ⟨g, off, x, h1, h2, h3, h4, h5, h6⟩ := Rs.at_ h (fun _ => rfl) hk
 exact ⟨g, off, x, h1, h2, h3, h4, h5, by simpa using h6 0 _ (by omega) rfl⟩
theorem at_B {xs : List Int} (h : RB w lo A c n xs) (hk : k < n) :
   ∃ g off x, A = some ⟨g, off, none⟩ ∧ lo ≤ g ∧ g < w.heap.size ∧ xs.drop k = x :: xs.drop (k + 1) ∧ xs[k]? = some x ∧ w.cell? ⟨g, off + k, none⟩ = some (.int .u8 x) := by
 obtain ⟨g, off, x, h1, h2, h3, h4, h5, h6⟩ := Rs.at_ h (fun _ => rfl) hk
 exact ⟨g, off, x, h1, h2, h3, h4, h5, by simpa using h6 0 _ (by omega) rfl⟩
theorem at_E {xs : List Sw.Ent} (h : RE w lo A c n xs) (hk : k < n) :
   ∃ g off x, A = some ⟨g, off, none⟩ ∧ lo ≤ g ∧ g < w.heap.size ∧ xs.drop k = x :: xs.drop (k + 1) ∧ xs[k]? = some x ∧
     w.cell? ⟨g, off + k * 4, none⟩ = some (.int .i64 x.kind) ∧ w.cell? ⟨g, off + k * 4 + 1, none⟩ = some (.int .i64 x.ticket) ∧
     w.cell? ⟨g, off + k * 4 + 2, none⟩ = some (.int .i64 x.who) ∧ w.cell? ⟨g, off + k * 4 + 3, none⟩ = some (.int .i64 x.price) := by
 obtain ⟨g, off, x, h1, h2, h3, h4, h5, h6⟩ := Rs.at_ h (fun _ => rfl) hk
 exact ⟨g, off, x, h1, h2, h3, h4, h5, by simpa using h6 0 _ (by omega) rfl, h6 1 _ (by omega) rfl, h6 2 _ (by omega) rfl, h6 3 _ (by omega) rfl⟩
theorem at_R {xs : List Sw.Row} (h : RR w lo A c n xs) (hk : k < n) :
   ∃ g off x, A = some ⟨g, off, none⟩ ∧ lo ≤ g ∧ g < w.heap.size ∧ xs.drop k = x :: xs.drop (k + 1) ∧ xs[k]? = some x ∧
     w.cell? ⟨g, off + k * 3, none⟩ = some (.int .i64 x.who) ∧ w.cell? ⟨g, off + k * 3 + 1, none⟩ = some (.int .i64 x.face) ∧
     w.cell? ⟨g, off + k * 3 + 2, none⟩ = some (.bool x.used) := by
 obtain ⟨g, off, x, h1, h2, h3, h4, h5, h6⟩ := Rs.at_ h (fun _ => rfl) hk
 exact ⟨g, off, x, h1, h2, h3, h4, h5, by simpa using h6 0 _ (by omega) rfl, h6 1 _ (by omega) rfl, h6 2 _ (by omega) rfl⟩
end
theorem head_ext {a b : Sw.Head} : a = b ↔ a.size = b.size ∧ a.log = b.log ∧ a.own = b.own := by
 cases a; cases b; simp
theorem rises_len : ∀ (xs : List Int) (p : Int), Sw.risesFrom p xs = true → -1 ≤ p → p ≤ 7 → (xs.length : Int) ≤ 7 - p
 | [], p, h, hp, hq => by simp only [List.length_nil]; omega
 | x :: xs, p, h, hp, hq => by
   simp only [Sw.risesFrom, Bool.and_eq_true, decide_eq_true_eq, Sw.inR] at h
   have := rises_len xs x h.2 (by omega) (by omega)
   simp only [List.length_cons]
   omega
theorem gatOk_len {g : Sw.Gate} (h : Sw.gatOk g = true) : g.done.length ≤ 8 := by
 simp only [Sw.gatOk, Bool.and_eq_true] at h
 have := rises_len g.done (-1) h.2 (by omega) (by omega)
 omega
end Go.Proofs.YtnnoiagommiapaaGreat
namespace Go.Proofs.YtnnoiagommiapaaGreat
open Go.RowKit Go
theorem beqI (a b : Int) : (a == b) = decide (a = b) := rfl
theorem ret_b {a b : Bool} (h : a = b) : Ending.returned (.bool a) = .returned (.bool b) := by rw [h]
theorem ret_i {k : IntKind} {a b : Int} (h : a = b) : Ending.returned (.int k a) = .returned (.int k b) := by rw [h]
theorem int_i {k : IntKind} {a b : Int} (h : a = b) : Value.int k a = .int k b := by rw [h]
set_option maxHeartbeats 400000
theorem in_c (n lo top : Int) (w : World) : Calls Tryz.prog 121 #[.int .i64 n, .int .i64 lo, .int .i64 top] w fun E w' => E = .returned (.bool (Sw.inR n lo top)) ∧ w = w' := by
 go_enter Tryz.func121, Tryz.ntmps121
 go_wp2
 all_goals (go_ret; refine ⟨ret_b (by simp [Sw.inR]; omega), rfl⟩)
theorem l1In_c (n lo top : Int) (w : World) : Calls Tryz.prog 99 #[.int .i64 n, .int .i64 lo, .int .i64 top] w fun E w' => E = .returned (.bool (Sw.inR n lo top)) ∧ w = w' := by
 go_enter Tryz.func99, Tryz.ntmps99
 go_wp2
 all_goals (go_ret; refine ⟨ret_b (by simp [Sw.inR]; omega), rfl⟩)
theorem iMixOk_c (n : Int) (w : World) : Calls Tryz.prog 102 #[.int .i64 n] w fun E w' => E = .returned (.bool (Sw.mixOk n)) ∧ w = w' := by
 go_enter Tryz.func102, Tryz.ntmps102
 go_wp2_with (first | (go_at_call 121; refine (in_c _ _ _ _).mono ?_; rintro E w' ⟨rfl, rfl⟩))
 all_goals (go_ret; refine ⟨ret_b (by simp [Sw.mixOk]), rfl⟩)
theorem sMixOk_c (n : Int) (w : World) : Calls Tryz.prog 179 #[.int .i64 n] w fun E w' => E = .returned (.bool (Sw.mixOk n)) ∧ w = w' := by
 go_enter Tryz.func179, Tryz.ntmps179
 go_wp2_with (first | (go_at_call 99; refine (l1In_c _ _ _ _).mono ?_; rintro E w' ⟨rfl, rfl⟩))
 all_goals (go_ret; refine ⟨ret_b (by simp [Sw.mixOk]), rfl⟩)
theorem mul_bd {a b : Int} (ha : 0 ≤ a ∧ a ≤ 65520) (hb : 0 ≤ b ∧ b ≤ 65520) : 0 ≤ a * b ∧ a * b ≤ 4292870400 :=
 ⟨Int.mul_nonneg ha.1 hb.1, Int.le_trans (Int.mul_le_mul ha.2 hb.2 hb.1 (by omega)) (by decide)⟩
theorem mixOk_bd {a : Int} : Sw.mixOk a = true ↔ 0 ≤ a ∧ a ≤ 65520 := by simp [Sw.mixOk, Sw.inR]
theorem sMixPair_c (a b : Int) (w : World) : Calls Tryz.prog 273 #[.int .i64 a, .int .i64 b] w fun E w' => E = .returned (.int .i64 (Sw.mixPair a b)) ∧ w = w' := by
 by_cases ha : Sw.mixOk a = true <;> by_cases hb : Sw.mixOk b = true
 · have ha' := mixOk_bd.1 ha
   have hb' := mixOk_bd.1 hb
   obtain ⟨a0, a1⟩ := ha'
   obtain ⟨b0, b1⟩ := hb'
   obtain ⟨c0, c1⟩ := mul_bd ⟨a0, a1⟩ ⟨b0, b1⟩
   go_enter Tryz.func273, Tryz.ntmps273
   go_wp2_with (first | (go_at_call 179; refine (sMixOk_c _ _).mono ?_; rintro E w' ⟨rfl, rfl⟩))
   all_goals (go_ret; refine ⟨ret_i (by simp [Sw.mixPair, Sw.pair, ha, hb]; omega), rfl⟩)
 all_goals
   go_enter Tryz.func273, Tryz.ntmps273
   go_wp2_with (first | (go_at_call 179; refine (sMixOk_c _ _).mono ?_; rintro E w' ⟨rfl, rfl⟩))
   all_goals (go_ret; refine ⟨ret_i (by simp [Sw.mixPair, *]), rfl⟩)
theorem sEntCap_c (f : Int) (w : World) : Calls Tryz.prog 178 #[.int .i64 f] w fun E w' => E = .returned (.int .i64 (Sw.entCap f)) ∧ w = w' := by
 by_cases h : Sw.inR f 1 50 = true
 · have h' : 1 ≤ f ∧ f ≤ 50 := by simpa [Sw.inR] using h
   obtain ⟨a, b⟩ := h'
   go_enter Tryz.func178, Tryz.ntmps178
   go_wp2_with (first | (go_at_call 99; refine (l1In_c _ _ _ _).mono ?_; rintro E w' ⟨rfl, rfl⟩))
   all_goals (go_ret; refine ⟨ret_i (by simp [Sw.entCap, h]), rfl⟩)
 · go_enter Tryz.func178, Tryz.ntmps178
   go_wp2_with (first | (go_at_call 99; refine (l1In_c _ _ _ _).mono ?_; rintro E w' ⟨rfl, rfl⟩))
   all_goals (go_ret; refine ⟨ret_i (by simp [Sw.entCap, h]), rfl⟩)
theorem leafStep_bd (x n : Int) : 0 ≤ Sw.leafStep x n ∧ Sw.leafStep x n ≤ 65520 := by unfold Sw.leafStep; omega
theorem tmod_bd (y : Int) : -65520 ≤ y.tmod 65521 ∧ y.tmod 65521 ≤ 65520 := by
 rw [Int.tmod_eq_emod]; split <;> omega
theorem leafStep_eq (x y : Int) : (x * 4099 + y.tmod 65521 % 65521 + 11) % 65521 = Sw.leafStep x y := by
 unfold Sw.leafStep
 rw [Int.tmod_eq_emod]; split <;> omega
theorem sMixLeaf_c (A : Option Addr) (c n : Nat) (xs : List Int) (w : World) (h : RI w 0 A c n xs) (hn : n ≤ 4194304) : Calls Tryz.prog 286 #[.slice A n c] w fun E w' => E = .returned (.int .i64 (Sw.mixLeaf xs)) ∧ w = w' := by
 have hl := Lib.hid h.1
 go_enter Tryz.func286, Tryz.ntmps286
 go_wp2
 go_loop [3, 4] (fun m i => ∃ (k : Nat) (x : Int), k ≤ n ∧ i = .int .i64 k ∧ m = .int .i64 x ∧ 0 ≤ x ∧ x ≤ 65520 ∧ Sw.mixLeafFrom 7 xs = Sw.mixLeafFrom x (xs.drop k)) (fun _ i => n - (intOf i).toNat)
 case atStart => exact ⟨0, 7, Nat.zero_le _, rfl, rfl, by omega, by omega, rfl⟩
 case round =>
   obtain ⟨k, x, hk, rfl, rfl, x0, x1, hrel⟩ := hrel
   by_cases hlt : k < n
   · obtain ⟨g, off, y, rfl, hg0, hg, hd, hy, hc⟩ := at_I h hlt
     rw [hd] at hrel
     clear hd hy
     have Hrel := Lib.hid hrel; clear hrel
     obtain ⟨y0, y1⟩ := tmod_bd y
     have hbd := leafStep_bd x y
     go_wp2
     go_round
     case rel => exact ⟨k + 1, Sw.leafStep x y, by omega, by go_num, int_i (leafStep_eq x y), hbd.1, hbd.2, Hrel.out⟩
     case measure => simp [intOf]; omega
   · have Hrel := Lib.hid hrel; clear hrel
     go_wp2
     go_ret
     refine ⟨ret_i ?_, rfl⟩
     have := Hrel.out
     rw [List.drop_of_length_le (by have := hl.out; omega)] at this
     unfold Sw.mixLeaf
     rw [this, hl.out]
     rfl
end Go.Proofs.YtnnoiagommiapaaGreat
namespace Go.Proofs.YtnnoiagommiapaaGreat.Sw
open Go.RowKit (wrap64)
theorem mix_iff {a : Int} : mixOk a = true ↔ 0 ≤ a ∧ a ≤ 65520 := by simp [mixOk, inR_iff]
theorem pair_mix (a b : Int) : mixOk (pair a b) = true := by
 rw [mix_iff]; unfold pair
 exact ⟨Int.emod_nonneg _ (by omega), by have := Int.emod_lt_of_pos (a * 8191 + b * 127 + a * b + 31) (show (0 : Int) < 65521 by omega); omega⟩
theorem root_mix : ∀ (xs : List Int), xs.all mixOk = true → mixOk (root xs) = true
 | [], _ => by simp [root]; decide
 | [x], h => by simpa [root] using h
 | x :: y :: r, _ => by rw [root]; exact pair_mix _ _
theorem mixLeaf_mix (l : List Int) : mixOk (mixLeaf l) = true := by
 rw [mix_iff]; unfold mixLeaf
 exact ⟨Int.emod_nonneg _ (by omega), by have := Int.emod_lt_of_pos (mixLeafFrom 7 l * 31 + l.length) (show (0 : Int) < 65521 by omega); omega⟩
theorem ownLeaf_mix (t : Int) (r : Row) : mixOk (ownLeaf t r) = true := by
 unfold ownLeaf
 split
 · exact mixLeaf_mix _
 · rfl
theorem leavesFrom_mix : ∀ (rows : List Row) (t : Int), (leavesFrom t rows).all mixOk = true
 | [], _ => rfl
 | r :: rs, t => by simp only [leavesFrom, List.all_cons, ownLeaf_mix, leavesFrom_mix rs, Bool.and_self]
theorem ownLeaves_mix (rows : List Row) : (ownLeaves rows).all mixOk = true := leavesFrom_mix rows 0
theorem entLeaves_mix (es : List Ent) : (es.map entLeaf).all mixOk = true := by
 rw [List.all_map, List.all_eq_true]; exact fun e _ => mixLeaf_mix _
theorem all_take {p : Int → Bool} {xs : List Int} {k : Nat} (h : xs.all p = true) : (xs.take k).all p = true := by
 rw [List.all_eq_true] at *; exact fun x hx => h x (List.mem_of_mem_take hx)
theorem all_drop {p : Int → Bool} {xs : List Int} {k : Nat} (h : xs.all p = true) : (xs.drop k).all p = true := by
 rw [List.all_eq_true] at *; exact fun x hx => h x (List.mem_of_mem_drop hx)
theorem grow_ok : ∀ (n : Nat) (l : List Int) (m : Nat) (known : Bool), l.all mixOk = true → 1 ≤ m → m ≤ l.length → (grow n l m known).all mixOk = true ∧ (grow n l m known).length ≤ l.length
 | 0, l, m, known, _, _, _ => by simp [grow]
 | n + 1, l, m, known, h, h0, h1 => by
   rw [grow]
   split
   · rename_i hm
     split
     · simp
     · simp [root_mix l h]; omega
   · have hs := split_lt (n := l.length) (by omega)
     have hp := split_pos l.length
     split
     · have ih := grow_ok n (l.take (split l.length)) m known (all_take h) h0 (by rw [List.length_take]; omega)
       rw [List.length_take] at ih
       simp only [List.all_append, List.all_cons, List.all_nil, Bool.and_true, Bool.and_eq_true, List.length_append, List.length_singleton]
       exact ⟨⟨ih.1, root_mix _ (all_drop h)⟩, by omega⟩
     · have ih := grow_ok n (l.drop (split l.length)) (m - split l.length) false (all_drop h) (by omega) (by rw [List.length_drop]; omega)
       rw [List.length_drop] at ih
       simp only [List.all_append, List.all_cons, List.all_nil, Bool.and_true, Bool.and_eq_true, List.length_append, List.length_singleton]
       exact ⟨⟨ih.1, root_mix _ (all_take h)⟩, by omega⟩
theorem treOk_iff {l : List Int} : treOk l = true ↔ l.length ≤ 40 ∧ l.all mixOk = true := by simp [treOk]
theorem conProof_ok (l : List Int) (m : Int) : treOk (conProof l m) = true := by
 unfold conProof
 split
 · rename_i h
   simp only [Bool.and_eq_true, inR_iff] at h
   have h1 := treOk_iff.1 h.1
   have := grow_ok l.length l m.toNat true h1.2 (by omega) (by omega)
   exact treOk_iff.2 ⟨by unfold growth; omega, this.1⟩
 · rfl
theorem hedProof_ok (l : List Ent) (m : Int) : treOk (hedProof l m) = true := by
 unfold hedProof
 split
 · exact conProof_ok _ _
 · rfl
theorem hedOk_iff {h : Head} : hedOk h = true ↔ (0 ≤ h.size ∧ h.size ≤ 40) ∧ mixOk h.log = true ∧ mixOk h.own = true := by
 simp [hedOk, inR_iff, and_assoc]
theorem ownRoot_mix (rows : List Row) : mixOk (ownRoot rows) = true := by
 unfold ownRoot
 split
 · exact root_mix _ (ownLeaves_mix _)
 · rfl
theorem hedOf_some {l : List Ent} {h : Head} : hedOf l = some h ↔ ∃ rows, ownFold l = some rows ∧ h = ⟨l.length, root (l.map entLeaf), ownRoot rows⟩ := by
 unfold hedOf
 rw [Option.map_eq_some_iff]
 constructor
 · rintro ⟨r, h1, rfl⟩; exact ⟨r, h1, rfl⟩
 · rintro ⟨r, h1, rfl⟩; exact ⟨r, h1, rfl⟩
theorem hedOf_ok {l : List Ent} {h : Head} (e : hedOf l = some h) : hedOk h = true ∧ h.size = l.length := by
 obtain ⟨rows, h1, rfl⟩ := hedOf_some.1 e
 have := (ownFold_some.1 h1).1
 rw [hedOk_iff]
 exact ⟨⟨by dsimp only; omega, root_mix _ (entLeaves_mix _), ownRoot_mix _⟩, rfl⟩
theorem hedOf_getD_ok (l : List Ent) : hedOk ((hedOf l).getD headZ) = true := by
 cases h : hedOf l with
 | none => decide
 | some x => exact (hedOf_ok h).1
theorem rises_iff : ∀ (xs : List Int) (p : Int), risesFrom p xs = true ↔ (∀ x ∈ xs, (0 ≤ x ∧ x ≤ 7) ∧ p < x) ∧ xs.Pairwise (· < ·)
 | [], p => by simp [risesFrom]
 | x :: xs, p => by
   rw [risesFrom, Bool.and_eq_true, Bool.and_eq_true, inR_iff, decide_eq_true_eq, rises_iff xs]
   simp only [List.mem_cons, forall_eq_or_imp, List.pairwise_cons]
   constructor
   · rintro ⟨⟨h1, h2⟩, h3, h4⟩
     exact ⟨⟨⟨h1, h2⟩, fun y hy => ⟨(h3 y hy).1, Int.lt_trans h2 (h3 y hy).2⟩⟩, fun y hy => (h3 y hy).2, h4⟩
   · rintro ⟨⟨⟨h1, h2⟩, h3⟩, h4, h5⟩
     exact ⟨⟨h1, h2⟩, fun y hy => ⟨(h3 y hy).1, h4 y hy⟩, h5⟩
theorem gatOk_iff {g : Gate} : gatOk g = true ↔ hedOk g.head = true ∧ (∀ x ∈ g.done, 0 ≤ x ∧ x ≤ 7) ∧ g.done.Pairwise (· < ·) := by
 unfold gatOk
 rw [Bool.and_eq_true, rises_iff]
 constructor
 · rintro ⟨h1, h2, h3⟩; exact ⟨h1, fun x hx => (h2 x hx).1, h3⟩
 · rintro ⟨h1, h2, h3⟩; exact ⟨h1, fun x hx => ⟨h2 x hx, by have := h2 x hx; omega⟩, h3⟩
theorem insert_mem {d x : Int} : ∀ {ds : List Int}, x ∈ insert d ds ↔ x = d ∨ x ∈ ds
 | [] => by simp [insert]
 | y :: ys => by
   rw [insert]
   split
   · simp
   · rw [List.mem_cons, insert_mem, List.mem_cons]
     constructor
     · rintro (h | h | h)
       · exact .inr (.inl h)
       · exact .inl h
       · exact .inr (.inr h)
     · rintro (h | h | h)
       · exact .inr (.inl h)
       · exact .inl h
       · exact .inr (.inr h)
theorem insert_rises {d : Int} : ∀ {ds : List Int}, ds.Pairwise (· < ·) → d ∉ ds → (insert d ds).Pairwise (· < ·)
 | [], _, _ => by simp [insert]
 | y :: ys, h, hn => by
   rw [List.pairwise_cons] at h
   simp only [List.mem_cons, not_or] at hn
   rw [insert]
   split
   · rw [List.pairwise_cons, List.pairwise_cons]
     refine ⟨fun x hx => ?_, h.1, h.2⟩
     rcases List.mem_cons.1 hx with rfl | hx
     · assumption
     · have := h.1 x hx; omega
   · rw [List.pairwise_cons]
     refine ⟨fun x hx => ?_, insert_rises h.2 hn.2⟩
     rcases insert_mem.1 hx with rfl | hx
     · omega
     · exact h.1 x hx
theorem hedFollows_ok {o h : Head} {p : List Int} (e : hedFollows o h p = true) : hedOk o = true ∧ hedOk h = true ∧ o.size ≤ h.size := by
 simp only [hedFollows, Bool.and_eq_true, decide_eq_true_eq] at e
 exact ⟨e.1.1.1.1, e.1.1.1.2, e.1.1.2⟩
theorem gatSync_ok {g : Gate} {h : Head} {p : List Int} (hg : gatOk g = true) : gatOk (gatSync g h p).1 = true := by
 unfold gatSync
 rw [if_pos hg]
 split
 · rename_i hf
   rw [gatOk_iff] at hg ⊢
   exact ⟨(hedFollows_ok hf).2.1, hg.2⟩
 · exact hg
theorem gatMay_facts {g : Gate} {t who : Int} {r : Row} {p : List Int} (h : gatMay g t who r p = true) : (1 ≤ who ∧ who ≤ 5) ∧ who = r.who ∧ r.used = false ∧ t ∉ g.done ∧ (0 ≤ t ∧ t ≤ 7) := by
 simp only [gatMay, ownCheck, Bool.and_eq_true, inR_iff, decide_eq_true_eq, Bool.not_eq_true'] at h
 refine ⟨h.1.1.1.1, h.1.1.1.2, h.1.1.2, ?_, h.2.1⟩
 have := h.1.2
 intro hm
 simp [hm] at this
theorem gatShow_ok {g : Gate} {t who : Int} {r : Row} {p : List Int} (hg : gatOk g = true) : gatOk (gatShow g t who r p).1 = true := by
 unfold gatShow
 rw [if_pos hg]
 split
 · rename_i hf
   have hf := gatMay_facts hf
   rw [gatOk_iff] at hg ⊢
   refine ⟨hg.1, fun x hx => ?_, insert_rises hg.2.2 hf.2.2.2.1⟩
   rcases insert_mem.1 hx with rfl | hx
   · exact hf.2.2.2.2
   · exact hg.2.1 x hx
 · exact hg
theorem gatNew_ok : gatOk gatNew = true := by
 rw [gatOk_iff]
 exact ⟨hedOf_getD_ok [], by simp [gatNew], by simp [gatNew]⟩
structure WOk (w : World) : Prop where
 mkt : mktOk w.market = true
 first : monOk w.first = true
 lines : w.lines.length ≤ 300
 glen : w.gates.length = 2
 blen : w.bag.length ≤ 6
 lok : ∀ r ∈ w.lines, lineOk r = true
 gok : ∀ g ∈ w.gates, gatOk g = true
 bok : ∀ x ∈ w.bag, msgOk x = true
theorem wldOk_iff {w : World} : wldOk w = true ↔ WOk w := by
 simp only [wldOk, Bool.and_eq_true, decide_eq_true_eq, List.all_eq_true]
 constructor
 · rintro ⟨⟨⟨⟨⟨⟨⟨h1, h2⟩, h3⟩, h4⟩, h5⟩, h6⟩, h7⟩, h8⟩; exact ⟨h1, h2, h3, h4, h5, h6, h7, h8⟩
 · rintro ⟨h1, h2, h3, h4, h5, h6, h7, h8⟩; exact ⟨⟨⟨⟨⟨⟨⟨h1, h2⟩, h3⟩, h4⟩, h5⟩, h6⟩, h7⟩, h8⟩
theorem gateAt_ok {w : World} (h : WOk w) {k : Int} (hk : 0 ≤ k ∧ k ≤ 1) : gatOk (gateAt w k) = true := by
 unfold gateAt
 have hl := h.glen
 obtain ⟨g, hg⟩ : ∃ g, w.gates[k.toNat]? = some g := ⟨_, List.getElem?_eq_getElem (by omega)⟩
 rw [getD_of hg]
 exact h.gok g (List.mem_of_getElem? hg)
theorem msgAt_ok {w : World} (h : WOk w) {i : Int} (hi : 0 ≤ i ∧ i ≤ (w.bag.length : Int) - 1) : msgOk (msgAt w i) = true := by
 unfold msgAt
 obtain ⟨g, hg⟩ : ∃ g, w.bag[i.toNat]? = some g := ⟨_, List.getElem?_eq_getElem (by omega)⟩
 rw [getD_of hg]
 exact h.bok g (List.mem_of_getElem? hg)
theorem ask_ok {w : World} (h : WOk w) (r : Req) : WOk (ask w r).1 := by
 unfold ask
 split
 · rename_i hr
   simp only [Bool.and_eq_true, decide_eq_true_eq] at hr
   refine ⟨doIt_mktOk h.mkt hr.1, h.first, by simp; omega, h.glen, h.blen, fun x hx => ?_, h.gok, h.bok⟩
   rcases List.mem_append.1 hx with hx | hx
   · exact h.lok x hx
   · obtain rfl := List.mem_singleton.1 hx
     simp [lineOk, hr.1]
 · exact h
theorem tickW_ok {w : World} (h : WOk w) : WOk (tickW w) := by
 unfold tickW
 split
 · rename_i hr
   simp only [Bool.and_eq_true, decide_eq_true_eq] at hr
   refine ⟨tick_mktOk h.mkt hr.1, h.first, by simp; omega, h.glen, h.blen, fun x hx => ?_, h.gok, h.bok⟩
   rcases List.mem_append.1 hx with hx | hx
   · exact h.lok x hx
   · obtain rfl := List.mem_singleton.1 hx
     rfl
 · exact h
theorem foldLines_ok : ∀ (rs : List Req) (m x : Mkt), mktOk m = true → foldLines m rs = some x → mktOk x = true
 | [], m, x, h, e => by simp [foldLines] at e; rw [← e]; exact h
 | r :: rs, m, x, h, e => by
   rw [foldLines] at e
   split at e
   · split at e
     · cases e
     · exact foldLines_ok rs _ x (tick_mktOk h ‹_›) e
   · split at e
     · exact foldLines_ok rs _ x (doIt_mktOk h ‹_›) e
     · cases e
theorem wldFold_ok {first : List Int} {lines : List Req} {x : Mkt} (e : wldFold first lines = some x) : mktOk x = true := by
 unfold wldFold at e
 split at e
 · rename_i h
   simp only [Bool.and_eq_true, decide_eq_true_eq] at h
   exact foldLines_ok _ _ _ (mktOk_iff.2 ⟨_, mktNew_ok h.1.1 h.1.2⟩) e
 · cases e
theorem fall_ok {w : World} (h : WOk w) : WOk (fall w) := by
 refine ⟨?_, h.first, h.lines, h.glen, by simp [fall], h.lok, h.gok, by simp [fall]⟩
 show mktOk ((wldFold w.first w.lines).getD w.market) = true
 cases e : wldFold w.first w.lines with
 | none => exact h.mkt
 | some x => exact wldFold_ok e
theorem send_ok {w : World} (h : WOk w) (k : Int) : WOk (send w k) := by
 unfold send
 split
 · rename_i hr
   simp only [Bool.and_eq_true, decide_eq_true_eq, inR_iff] at hr
   refine ⟨h.mkt, h.first, h.lines, h.glen, by simp; omega, h.lok, h.gok, fun x hx => ?_⟩
   rcases List.mem_append.1 hx with hx | hx
   · exact h.bok x hx
   · obtain rfl := List.mem_singleton.1 hx
     simp only [msgOk, Bool.and_eq_true, inR_iff]
     exact ⟨⟨hr.1, hedOf_getD_ok _⟩, hedProof_ok _ _⟩
 · exact h
theorem lose_ok {w : World} (h : WOk w) (i : Int) : WOk (lose w i) :=
 ⟨h.mkt, h.first, h.lines, h.glen, Nat.le_trans (List.eraseIdx_sublist w.bag i.toNat).length_le h.blen, h.lok, h.gok, fun x hx => h.bok x ((List.eraseIdx_sublist w.bag i.toNat).subset hx)⟩
theorem setGate_ok {w : World} (h : WOk w) {k : Nat} {g : Gate} (hg : gatOk g = true) : WOk { w with gates := w.gates.set k g } := by
 refine ⟨h.mkt, h.first, h.lines, by simpa using h.glen, h.blen, h.lok, fun x hx => ?_, h.bok⟩
 rcases List.mem_or_eq_of_mem_set hx with hx | rfl
 · exact h.gok x hx
 · exact hg
theorem heard_ok {w : World} (h : WOk w) {x : Msg} (hx : msgOk x = true) : WOk (heard w x) := by
 simp only [msgOk, Bool.and_eq_true, inR_iff] at hx
 exact setGate_ok h (gatSync_ok (gateAt_ok h hx.1.1))
theorem hear_ok {w : World} (h : WOk w) {i : Int} (hi : 0 ≤ i ∧ i ≤ (w.bag.length : Int) - 1) : WOk (hear w i) := heard_ok (lose_ok h i) (msgAt_ok h hi)
theorem twice_ok {w : World} (h : WOk w) {i : Int} (hi : 0 ≤ i ∧ i ≤ (w.bag.length : Int) - 1) : WOk (twice w i) := by
 unfold twice
 split
 · refine ⟨h.mkt, h.first, h.lines, h.glen, by simp; omega, h.lok, h.gok, fun x hx => ?_⟩
   rcases List.mem_append.1 hx with hx | hx
   · exact h.bok x hx
   · obtain rfl := List.mem_singleton.1 hx
     exact msgAt_ok h hi
 · exact h
theorem showIt_ok {w : World} (h : WOk w) (k t who : Int) : WOk (showIt w k t who).1 := by
 unfold showIt
 split
 · rename_i hr
   simp only [Bool.and_eq_true, decide_eq_true_eq, inR_iff] at hr
   split
   · exact h
   · split
     · exact setGate_ok h (gatShow_ok (gateAt_ok h hr.1.1))
     · exact h
 · exact h
theorem tellOne_ok {w : World} (h : WOk w) (t : Int) : WOk (tellOne w t) := by
 unfold tellOne
 split
 · exact ask_ok h _
 · exact h
theorem tells_ok : ∀ (ts : List Int) {w : World}, WOk w → WOk (ts.foldl tellOne w)
 | [], _, h => h
 | t :: ts, _, h => tells_ok ts (tellOne_ok h t)
theorem tell_ok {w : World} (h : WOk w) (k : Int) : WOk (tell w k) := by
 unfold tell
 split
 · exact tells_ok _ h
 · exact h
theorem step_ok {w : World} (h : WOk w) (e : Ev) : WOk (step w e).1 := by
 unfold step
 split
 · exact ask_ok h _
 split
 · exact tickW_ok h
 split
 · exact fall_ok h
 split
 · exact send_ok h _
 split
 · dsimp only; split
   · exact hear_ok h (inR_iff.1 ‹_›)
   · exact h
 split
 · dsimp only; split
   · exact lose_ok h _
   · exact h
 split
 · dsimp only; split
   · exact twice_ok h (inR_iff.1 ‹_›)
   · exact h
 split
 · exact showIt_ok h _ _ _
 split
 · exact tell_ok h _
 · exact h
theorem wldNew_ok {p : List Int} (hp : monOk p = true) (hs : monSum p ≤ 100000) : WOk (wldNew p) := by
 have e : wldNew p = ⟨p, mktNew p, [], [gatNew, gatNew], []⟩ := by simp [wldNew, hp, hs]
 rw [e]
 exact ⟨mktOk_iff.2 ⟨_, mktNew_ok hp hs⟩, hp, by simp, rfl, by simp, by simp, by simp [gatNew_ok], by simp⟩
end Go.Proofs.YtnnoiagommiapaaGreat.Sw
namespace Go.Proofs.YtnnoiagommiapaaGreat
open Go.ChangeShapes Go.WideShapes Go.ChangeAt Go.RowKit Go
section
variable {H : Type} {enc : TypeId × Value → H} {P : Program}
theorem trodAll_stays (hl : laidOutB P = true) {W W' : World} {sp : Nat → Bool} (hb : Below W.heap.size W W') : ∀ {ts : List TypeId} {vs : List Value} {ds : List (DataW H)} {ps : List MemPlace},
   ts.all (fun t => P.readableRec t && decide (t < P.types.size)) = true → DataW.TrodAll enc P W 0 (fun _ => true) true ts vs ds ps → (∀ x ∈ ps, x.block < W.heap.size) → (∀ x ∈ ps, sp x.block = true) →
   DataW.TrodAll enc P W' 0 sp true ts vs ds ps
 | [], [], [], _, _, h, _, _ => h
 | t :: ts, v :: vs, d :: ds, _, hr, ⟨p, q, h1, h2, e⟩, hlt, hs => by
   simp only [List.all_cons, Bool.and_eq_true, decide_eq_true_eq] at hr
   subst e
   refine ⟨p, q, ?_, trodAll_stays hl hb hr.2 h2 (fun x hx => hlt x (List.mem_append_right _ hx)) (fun x hx => hs x (List.mem_append_right _ hx)), rfl⟩
   exact WideElems.Trod_stays hl hr.1.1 hr.1.2 h1 (fun x hx => hb.same (hlt x (List.mem_append_left _ hx))) (fun x hx => hs x (List.mem_append_left _ hx))
theorem law_post {f : Func} {s : ChangeSpec} {apart fresh handsOn again : Bool} {W W' : World} {args : Array Value} {ds gs : List (DataW H)} {before : List MemPlace} {tb : TypeId}
   (hl : laidOutB P = true) (hr : f.params.toList.all (fun t => P.readableRec t && decide (t < P.types.size)) = true) (hres : f.resultTypes = #[tb]) (htb : P.underlying tb = some .bool) (hv : s.vars = [])
   (hfn : (s.fn H ds).results = [.lit (.bool true)] ∧ (s.fn H ds).args = ds ∧ (s.fn H ds).vars = [])
   (hW : DataW.Whole enc P f.params.toList s.vars apart W args.toList ds gs before) (hb : Ex W W') : s.post enc P f apart fresh handsOn again W args (.bool true) W' := by
 have hW0 := hW
 have hbl := hb.below
 have hlt : ∀ p ∈ before, p.block < W.heap.size := fun p hp => by simpa using hW.lt p hp
 obtain ⟨p, q, hA, hV, he, hz, hn⟩ := hW
 rw [hv] at hV
 obtain ⟨rfl, rfl⟩ := trodVars_none hV
 rw [List.append_nil] at he
 subst he
 obtain ⟨f1, f2, f3⟩ := hfn
 have hargs : ∀ sp : Nat → Bool, (∀ x ∈ before, sp x.block = true) → DataW.TrodAll enc P W' 0 sp true f.params.toList args.toList (s.fn H (ds ++ [])).args before := fun sp hs => by
   rw [List.append_nil, f2]
   exact trodAll_stays hl hbl hr hA hlt hs
 have hvars : ∀ sp : Nat → Bool, DataW.TrodVars enc P W' sp s.vars (s.fn H (ds ++ [])).vars [] := fun sp => by
   rw [List.append_nil, f3, hv]
   rfl
 have hresu : ∀ (b : Nat) (sp : Nat → Bool) (hd : Bool), DataW.TrodAll enc P W' b sp hd f.resultTypes.toList ((Value.bool true).resultList f.resultTypes.size) (s.fn H (ds ++ [])).results [] := fun b sp hd => by
   rw [List.append_nil, f1, hres]
   exact trodAll_cons_mk (shut_bool htb _) trodAll_mk0
 have hold : ∀ p ∈ before, (fun b => decide (b < W.heap.size)) p.block = true := fun p hp => by simpa using hlt p hp
 refine ⟨ds, [], before, [], before, [], hW0, hresu _ _ _, hargs _ hold, hvars _, World.keptBut_mono (fun p hp => ⟨hp, Or.inr (by simpa using hp)⟩) (hbl.frame _), fun _ => ?_⟩
 refine ⟨ok_one (by rw [hres]) rfl (okWide_bool_mk htb _), _, _, ([] ++ before) ++ [], ⟨[] ++ before, [], trodAll_append (hargs _ (fun _ _ => rfl)) (hresu _ _ _), hvars _, rfl, ?_, ?_⟩, ?_⟩
 · intro b off hp
   have hp' : MemPlace.cell b off ∈ before := by simpa using hp
   rw [hbl.frozen (by exact hlt _ hp')]
   exact hz b off (by simpa using hp)
 · intro ha
   have := hn ha
   simpa using this
 · intro p hp _
   simpa using hp
theorem spot_of_cell {W : World} {a : Addr} {v : Value} (h : W.cell? a = some v) : a.spot = none ∧ a.block < W.heap.size := by
 unfold World.cell? at h
 split at h
 · rename_i c T fz hh
   refine ⟨?_, (Array.getElem?_eq_some_iff.1 hh).1⟩
   cases hs : a.spot with
   | none => rfl
   | some _ => rw [hs] at h; simp at h
 · cases h
theorem slice_form {W : World} {base : Nat} {t e : TypeId} {v : Value} {A : Option Addr} {n c : Nat} (ht : P.underlying t = some (.slice e)) (hv : Value.okWide P W .any base t v) (h : v.cells.toList = [.slice A n c]) : v = .slice A n c := by
 unfold Value.okWide at hv
 rw [ht] at hv
 unfold Cell.okWide Cell.ok at hv
 rw [ht] at hv
 cases v <;> simp_all [Value.cells]
end
end Go.Proofs.YtnnoiagommiapaaGreat
