/-
  Texts joined: Law1.
-/
import Derived.Test.YtdbnbembjebfhaaGreatPz2
import Derived.Test.YtdbnbembjebfhaaGreatPz11
namespace Go.Proofs.YtdbnbembjebfhaaGreat
set_option maxRecDepth 100000
set_option linter.unusedSimpArgs false
set_option linter.unusedVariables false
open Go.RowKit Go
set_option maxHeartbeats 400000

theorem z_I : ∀ i z, Tryz.prog.info? 3 = some i → i.zero = some z → z.cells = (encI 0).toArray := by
  have h : (Tryz.prog.info? 3).map (·.zero) = some (some (.int .i64 0)) := by kernel_rfl
  intro i z hi hz
  rw [hi] at h
  simp only [Option.map_some, Option.some.injEq] at h
  rw [hz] at h
  cases h
  rfl

theorem at_OI {w : World} {lo c n k : Nat} {A : Option Addr} {xs : List Int} (h : OwI w lo A c n xs) (hk : k < n) :
    ∃ g x, A = some ⟨g, 0, none⟩ ∧ lo ≤ g ∧ g < w.heap.size ∧ xs[k]? = some x ∧ w.cell? ⟨g, k, none⟩ = some (.int .i64 x) ∧ (∀ i, w.frozen? ⟨g, i, none⟩ = false) := by
  obtain ⟨g, x, h1, h2, h3, h4, h5, h6⟩ := Ow.at_ h (fun _ => rfl) hk
  exact ⟨g, x, h1, h2, h3, h4, by simpa using h5 0 _ (by omega) rfl, h6⟩
theorem OI_set {w : World} {lo c n k g : Nat} {A : Option Addr} {xs : List Int} (h : OwI w lo A c n xs) (hA : A = some ⟨g, 0, none⟩) {a : Int} (hx : xs[k]? = some a) (v : Int) :
    OwI (w.setCell ⟨g, k, none⟩ (.int .i64 v)) lo A c n (xs.set k v) := by
  have := Ow.set h (fun _ => rfl) (j := 0) (u := .int .i64 v) hA hx (by omega) (y := v) rfl
  simpa using this

theorem szIntS_c (A : Option Addr) (c n : Nat) (xs : List Int) (l : Int) (w : World) (hxs : RI w 0 A c n xs) (h0 : 0 ≤ l) (h1 : l ≤ 1048576) : Calls Tryz.prog 67 #[.slice A n c, .int .i64 l] w fun E w' => E = .returned (.int .i64 (if l - n < 0 then -1 else l - n)) ∧ w = w' := by
  have hm : n ≤ 9223372036854775807 := by have := hxs.2.le; have := hxs.2.cap; unfold maxLen at this; omega
  have hw : IntKind.i64.wrap (l - n) = l - n := by rw [IntWalk.i64_in _ (by omega)]
  by_cases hn : l - n < 0
  · go_enter Tryz.func67, Tryz.ntmps67
    go_wp2
    go_ret
    exact ⟨ret_i (by simp [hn]), rfl⟩
  · go_enter Tryz.func67, Tryz.ntmps67
    go_wp2
    go_ret
    exact ⟨ret_i (by simp [hn]), rfl⟩

theorem take_set_step {α : Type} {xs : List α} {k n : Nat} {y z : α} (hn : n = xs.length) (hk : k < n) (hy : xs[k]? = some y) : (xs.take k ++ List.replicate (n - k) z).set k y = xs.take (k + 1) ++ List.replicate (n - (k + 1)) z := by
  have hl : (xs.take k).length = k := by rw [List.length_take]; omega
  rw [List.set_append_right _ _ (by omega), hl, Nat.sub_self, List.take_add_one, hy]
  obtain ⟨m, hm⟩ : ∃ m, n - k = m + 1 := ⟨n - k - 1, by omega⟩
  rw [hm, List.replicate_succ, List.set_cons_zero, show n - (k + 1) = m by omega]
  simp
theorem take_rep_at {α : Type} {xs : List α} {k n : Nat} {z : α} (hn : n = xs.length) (hk : k < n) : (xs.take k ++ List.replicate (n - k) z)[k]? = some z := by
  have hl : (xs.take k).length = k := by rw [List.length_take]; omega
  rw [List.getElem?_append_right (by omega), hl, Nat.sub_self, List.getElem?_replicate]
  simp; omega

theorem toIntS_c (A : Option Addr) (c n : Nat) (xs : List Int) (w : World) (hxs : RI w 0 A c n xs) (hn : n ≤ 4194304) : Calls Tryz.prog 75 #[.slice A n c] w fun E w' => ∃ g, E = .returned (.slice (some ⟨g, 0, none⟩) n n) ∧ OwI w' w.heap.size (some ⟨g, 0, none⟩) n n xs ∧ w.heap.size ≤ g ∧ g < w'.heap.size ∧ Ex w w' := by
  have hl := Lib.hid hxs.1
  go_enter Tryz.func75, Tryz.ntmps75
  go_wp2_with (at_make; apply wpList_mk (lo := w.heap.size) el_I 0 z_I rfl rfl rfl rfl rfl; omega; (unfold maxLen; omega); exact sz_; intro wm hom hbm hzm; have hst := xr hbm; (try simp only [zA, zC, zD, zN] at hst); obtain ⟨hcm, hfm, hzm2⟩ := hst)
  go_loopw [4] (fun i wr => ∃ k : Nat, k ≤ n ∧ i = .int .i64 k ∧ Ex w wr ∧ OwI wr w.heap.size (some ⟨w.heap.size, 0, none⟩) n n (xs.take k ++ List.replicate (n - k) 0)) (fun i _ => n - (intOf i).toNat)
  case atStart => exact ⟨0, Nat.zero_le _, rfl, by assumption, by simpa using hom⟩
  case round =>
    obtain ⟨k, hk, rfl, hb2, hrel⟩ := hrel
    have hst := Ex.rules hb2 rfl
    obtain ⟨hc2, hf2, hz2⟩ := hst
    by_cases hlt : k < n
    · obtain ⟨g, off, y, rfl, hg0, hg, hd, hy, hcy⟩ := at_I hxs hlt
      obtain ⟨g', x', hA', hg0', hg', hx', hc', hfr⟩ := at_OI hrel hlt
      cases hA'
      have Hs := Lib.hid (OI_set hrel rfl hx' y)
      have Hy := Lib.hid hy
      have Hd := Lib.hid hd
      clear hrel hd hy hx'
      go_wp2_with fail
      go_roundw
      case rel =>
        refine ⟨k + 1, by omega, by go_num, ext_, ?_⟩
        have := Hs.out
        rw [take_set_step hl.out hlt Hy.out] at this
        exact this
      case measure => simp [intOf]; omega
    · have Hrel := Lib.hid hrel; clear hrel
      go_wp2_with fail
      go_ret
      have := Hrel.out
      obtain rfl : k = n := by omega
      rw [Nat.sub_self, List.take_of_length_le (by have := hl.out; omega)] at this
      exact ⟨_, rfl, by simpa using this, Nat.le_refl _, (this.blk rfl).2, ext_⟩
end Go.Proofs.YtdbnbembjebfhaaGreat

