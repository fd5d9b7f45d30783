/-
  Texts joined: PtrL, Law3, LawMk, LawMk2, Range, ExMktDo, Frame, Open, OpenM, End.
-/
import Derived.Test.YtgceeggfdomdjaaPkD10
import Derived.Test.YtgceeggfdomdjaaPkD2
import Derived.Test.YtgceeggfdomdjaaPkD3
import Derived.Deep.DeepCutAuto
import Derived.Test.YtgceeggfdomdjaaPkD1
import Derived.Carry
import Derived.WalkKit
import Derived.ProofKit
import Derived.ChangeSame
import Derived.OpenShut
import Derived.ChangeSlices
import Derived.Deep.Slices
import Derived.Test.YtgceeggfdomdjaaRows
import Derived.Handed
import Derived.JoinedOf
namespace Go.Proofs.Ytgceeggfdomdjaa
set_option maxRecDepth 100000
set_option linter.unusedSimpArgs false
set_option linter.unusedVariables false
open Go.RowKit Go
set_option maxHeartbeats 4000000

theorem sMktDo_c (aL : Option Addr) (aLc aLn : Nat) (aP : Option Addr) (aPc aPn : Nat) (aD : Option Addr) (aDc aDn : Nat) (aN : Option Addr) (aNc aNn : Nat) (aS : Option Addr) (aSc aSn : Nat) (m : Sw.Mkt) (r : Sw.Req) (w : World) (hm : RM w 0 aL aLc aLn aP aPc aPn aD aDc aDn aN aNc aNn aS aSc aSn m) (hn : aLn + aPn + aDn + aNn + aSn ≤ 1048576) : Calls Try.prog 49 #[.agg #[.slice aL aLn aLc, .slice aP aPn aPc, .slice aD aDn aDc, .int .i64 m.clock, .slice aN aNn aNc, .slice aS aSn aSc], .agg #[.int .i64 r.user, .int .i64 r.n, .int .i64 r.kind, .int .i64 r.ticket, .int .i64 r.who, .int .i64 r.price]] w fun E w' => ∃ bL bLc bLn bP bPc bPn bD bDc bDn bN bNc bNn bS bSc bSn τ, E = .returned (.tuple #[.agg #[.slice bL bLn bLc, .slice bP bPn bPc, .slice bD bDn bDc, .int .i64 (Sw.mktDo m r).1.clock, .slice bN bNn bNc, .slice bS bSn bSc], .int .i64 (Sw.mktDo m r).2]) ∧ OwM τ w' w.heap.size bL bLc bLn bP bPc bPn bD bDc bDn bN bNc bNn bS bSc bSn (Sw.mktDo m r).1 ∧ Ex w w' := by
  cases g1 : Sw.mktOk m
  case false =>
    have e : Sw.mktDo m r = (⟨[], [], [], 0, [], []⟩, 0) := by simp [Sw.mktDo, g1, Sw.mktZ]
    have He := Lib.hid e; clear e
    go_enter Try.func49, Try.ntmps49
    go_wp2_with (first | (go_at_call 45; apply Calls.mono; apply sMktOk_c; ((first | (apply RM.at0; assumption) | (apply OwM.rm0; assumption)); exact kf_); rintro E w1 ⟨rfl, hb⟩; have hst := xr hb; (try simp only [zA, zC, zD, zN] at hst); obtain ⟨hc, hf, hz⟩ := hst))
    refine bodyPost_ret (v := .tuple #[.agg #[.slice none 0 0, .slice none 0 0, .slice none 0 0, .int .i64 0, .slice none 0 0, .slice none 0 0], .int .i64 0]) (by simp [results, Try.results49, go_sem, *]) rfl ?_
    refine ⟨_, _, _, _, _, _, _, _, _, _, _, _, _, _, _, fun _ => 0, by rw [He.out], ?_, ext_⟩
    rw [He.out]
    exact ⟨OwT.nil .., OwT.nil .., OwT.nil .., OwT.nil .., OwT.nil ..⟩
  cases g2 : Sw.reqOk r
  case false =>
    have e : Sw.mktDo m r = (⟨[], [], [], 0, [], []⟩, 0) := by simp [Sw.mktDo, g1, g2, Sw.mktZ]
    have He := Lib.hid e; clear e
    obtain ⟨ru, rn, rk, rt, rh, rp⟩ := r
    go_enter Try.func49, Try.ntmps49
    go_wp2_with (first | (go_at_call 45; apply Calls.mono; apply sMktOk_c; ((first | (apply RM.at0; assumption) | (apply OwM.rm0; assumption)); exact kf_); rintro E w1 ⟨rfl, hb⟩; have hst := xr hb; (try simp only [zA, zC, zD, zN] at hst); obtain ⟨hc, hf, hz⟩ := hst) | (go_at_call 63; apply Calls.mono; apply (sReqOk_c ⟨ru, rn, rk, rt, rh, rp⟩); rintro E w3 ⟨rfl, hb⟩; rw [g2]; have hst := xr hb; (try simp only [zA, zC, zD, zN] at hst); obtain ⟨hc, hf, hz⟩ := hst))
    refine bodyPost_ret (v := .tuple #[.agg #[.slice none 0 0, .slice none 0 0, .slice none 0 0, .int .i64 0, .slice none 0 0, .slice none 0 0], .int .i64 0]) (by simp [results, Try.results49, go_sem, *]) rfl ?_
    refine ⟨_, _, _, _, _, _, _, _, _, _, _, _, _, _, _, fun _ => 0, by rw [He.out], ?_, ext_⟩
    rw [He.out]
    exact ⟨OwT.nil .., OwT.nil .., OwT.nil .., OwT.nil .., OwT.nil ..⟩
  have hok := (Sw.mktOk_iff.1 g1)
  obtain ⟨rows, hok⟩ := hok
  have e : Sw.mktDo m r = Sw.doIt m r := by simp [Sw.mktDo, g1, g2]
  have He := Lib.hid e; clear e
  have HK := Lib.hid hok
  have HR := Lib.hid g2
  clear hok
  obtain ⟨ru, rn, rk, rt, rh, rp⟩ := r
  obtain ⟨x, hx⟩ : ∃ x, x = Sw.doIt m ⟨ru, rn, rk, rt, rh, rp⟩ := ⟨_, rfl⟩
  have Hx := Lib.hid hx
  clear hx
  go_enter Try.func49, Try.ntmps49
  go_wp2_with (first | (go_at_call 45; apply Calls.mono; apply sMktOk_c; ((first | (apply RM.at0; assumption) | (apply OwM.rm0; assumption)); exact kf_); rintro E w1 ⟨rfl, hb⟩; have hst := xr hb; (try simp only [zA, zC, zD, zN] at hst); obtain ⟨hc, hf, hz⟩ := hst) | (go_at_call 63; apply Calls.mono; apply (sReqOk_c ⟨ru, rn, rk, rt, rh, rp⟩); rintro E w3 ⟨rfl, hb⟩; rw [g2]; have hst := xr hb; (try simp only [zA, zC, zD, zN] at hst); obtain ⟨hc, hf, hz⟩ := hst))
  have hz3 : w.heap.size + 3 ≤ w3.heap.size := sz_
  have hw3 : Ex w w3 := ext_
  have rc : ∀ i : Nat, i < 6 → w3.cell? ⟨w.heap.size + 1 + 1, i, none⟩ = w3.cell? ⟨w.heap.size + 1 + 1, i, none⟩ := fun _ _ => rfl
  clear rc
  (refine wp_name ?_; intro W0 hb0; have hst := xr hb0; (try simp only [zA, zC, zD, zN] at hst); obtain ⟨hc0, hf0, hz0⟩ := hst)
  go_region_with ((first | (go_at_call 102; apply Calls.mono; apply sMktCopy_c; (apply RM.at0 hm; (exact kf_)); exact hn; rintro E w5 ⟨bL, bLc, bLn, bP, bPc, bPn, bD, bDc, bDn, bN, bNc, bNn, bS, bSc, bSn, τ5, rfl, ho5, hb5⟩; have hst := xr hb5; (try simp only [zA, zC, zD, zN] at hst); obtain ⟨hc5, hf5, hz5⟩ := hst) | (go_at_call 114; apply Calls.mono; apply (sDo_c (m := m) (r := ⟨ru, rn, rk, rt, rh, rp⟩) (rows := rows) (τ := τ5)); (exact ho5); (exact HK.out); (exact HR.out); (exact sz_); rintro E w6 ⟨fL, fLc, fLn, fP, fPc, fPn, fD, fDc, fDn, fN, fNc, fNn, fS, fSc, fSn, τ6, rfl, ho6, hτ6, hb6⟩; rw [← Hx.out] at ho6; rw [← Hx.out]; have hr1 := (fun i : Nat => hb6.cell (p := ⟨w.heap.size + 1 + 1, i, none⟩) sz_ (fun h => (by have h1 := h.1; simp only [zA, zD] at h1; omega))); have hr2 := (fun i : Nat => hb6.frozen (p := ⟨w.heap.size + 1 + 1, i, none⟩) sz_ (fun h => (by have h1 := h.1; simp only [zA, zD] at h1; omega))))))
  all_goals
    have hex : Ex w w6 := Ch.trans' (show Ex w w5 from ext_) hb6 (fun i hi h => (by have h1 := h.1; simp only [zD] at h1; omega))
    clear hb6
    go_wp2
    refine bodyPost_ret (v := .tuple #[.agg #[.slice fL fLn fLc, .slice fP fPn fPc, .slice fD fDn fDc, .int .i64 x.1.clock, .slice fN fNn fNc, .slice fS fSn fSc], .int .i64 x.2]) (by simp [results, Try.results49, go_sem, *]) rfl ?_
    refine ⟨_, _, _, _, _, _, _, _, _, _, _, _, _, _, _, τ6, by rw [He.out, ← Hx.out], ?_, ext_⟩
    rw [He.out, ← Hx.out]
    exact OwM.less (ho6.keepF (by (exact kf_))) (by exact sz_)
end Go.Proofs.Ytgceeggfdomdjaa

namespace Go.Proofs.Ytgceeggfdomdjaa
set_option maxRecDepth 100000
set_option linter.unusedSimpArgs false
set_option linter.unusedVariables false
open Go.RowKit Go
set_option maxHeartbeats 400000

/-- n numbers from k on. -/
def marks : Int → Nat → List Int
  | _, 0 => []
  | k, n + 1 => k :: marks (k + 1) n
theorem marks_len : ∀ (n : Nat) (k : Int), (marks k n).length = n
  | 0, _ => rfl
  | n + 1, k => by rw [marks, List.length_cons, marks_len n]
theorem marks_at : ∀ (n j : Nat) (k : Int), j < n → (marks k n)[j]? = some (k + j)
  | 0, j, k, h => absurd h (Nat.not_lt_zero _)
  | n + 1, 0, k, _ => by simp [marks]
  | n + 1, j + 1, k, h => by
    rw [marks, List.getElem?_cons_succ, marks_at n j (k + 1) (by omega)]
    congr 1; omega
theorem marks_succ : ∀ (n : Nat) (k : Int), marks k (n + 1) = marks k n ++ [k + n]
  | 0, k => by simp [marks]
  | n + 1, k => by
    rw [marks, marks_succ n (k + 1)]
    simp only [marks, List.cons_append, List.cons.injEq, true_and]
    congr 2; omega
theorem marks_set {xs : List Int} {k : Int} {j n : Nat} (hn : n = xs.length) (hj : j < n) : (marks k j ++ xs.drop j).set j (k + j) = marks k (j + 1) ++ xs.drop (j + 1) := by
  rw [List.set_append_right _ _ (by rw [marks_len]; omega), marks_len, Nat.sub_self, marks_succ, List.append_assoc]
  congr 1
  rw [List.drop_eq_getElem_cons (by omega), List.set_cons_zero]
  rfl
theorem marks_old {xs : List Int} {k : Int} {j n : Nat} (hn : n = xs.length) (hj : j < n) : ∃ y, (marks k j ++ xs.drop j)[j]? = some y := by
  refine ⟨xs[j]'(by omega), ?_⟩
  rw [List.getElem?_append_right (by rw [marks_len]; omega), marks_len, Nat.sub_self, List.getElem?_drop]
  simp

theorem markIntS_c (A : Option Addr) (c n lo : Nat) (xs : List Int) (k : Int) (w : World) (hxs : OwI w lo A c n xs) (hk0 : 0 ≤ k) (hk1 : k ≤ 67108864) (hn : n ≤ 4194304) : Calls Try.prog 123 #[.slice A n c, .int .i64 k] w fun E w' => E = .returned (.int .i64 (k + n)) ∧ OwI w' lo A c n (marks k n) ∧ Ch (atA A) w w' := by
  have hl := Lib.hid hxs.1
  go_enter Try.func123, Try.ntmps123
  go_wp2_with fail
  go_loopw [5, 1] (fun i kk wr => ∃ j : Nat, j ≤ n ∧ i = .int .i64 j ∧ kk = .int .i64 (k + j) ∧ Ch (atA A) w wr ∧ OwI wr lo A c n (marks k j ++ xs.drop j)) (fun i _ _ => n - (intOf i).toNat)
  case atStart => exact ⟨0, Nat.zero_le _, rfl, by simp, Ch.refl _ _, hxs⟩
  case round =>
    obtain ⟨j, hj, rfl, rfl, hb2, hrel⟩ := hrel
    by_cases hlt : j < n
    · obtain ⟨g', x', rfl, hg0', hg', hx', hc', hfr⟩ := at_OI hrel hlt
      have Hs := Lib.hid (OI_set hrel rfl hx' (k + j))
      have hw : IntKind.i64.wrap (k + j + 1) = k + ((j + 1 : Nat) : Int) := by rw [IntWalk.i64_in _ (by omega)]; omega
      have Hb := Lib.hid hb2
      clear hrel hx' hb2
      go_wp2_with fail
      go_roundw
      case rel =>
        refine ⟨j + 1, by omega, by go_num, rfl, Ch.setCell (p := ⟨g', j, none⟩) Hb.out (Or.inl ⟨⟨g', 0, none⟩, rfl, rfl⟩) _, ?_⟩
        have := Hs.out
        rw [marks_set hl.out hlt] at this
        exact this
      case measure => simp [intOf]; omega
    · have Hrel := Lib.hid hrel; clear hrel
      go_wp2_with fail
      go_ret
      obtain rfl : j = n := by omega
      have := Hrel.out
      rw [List.drop_of_length_le (by have := hl.out; omega), List.append_nil] at this
      exact ⟨rfl, this, hb2⟩

theorem heldIntS_c (A : Option Addr) (c n : Nat) (k : Int) (w : World) (hxs : RI w 0 A c n (marks k n)) (hk0 : 0 ≤ k) (hk1 : k ≤ 67108864) (hn : n ≤ 4194304) : Calls Try.prog 126 #[.slice A n c, .int .i64 k] w fun E w' => E = .returned (.int .i64 (k + n)) ∧ w = w' := by
  go_enter Try.func126, Try.ntmps126
  go_wp2
  go_loop [5, 1] (fun i kk => ∃ j : Nat, j ≤ n ∧ i = .int .i64 j ∧ kk = .int .i64 (k + j)) (fun i _ => n - (intOf i).toNat)
  case atStart => exact ⟨0, Nat.zero_le _, rfl, by simp⟩
  case round =>
    obtain ⟨j, hj, rfl, rfl⟩ := hrel
    by_cases hlt : j < n
    · obtain ⟨g, off, y, rfl, hg0, hg, hd, hy, hcy⟩ := at_I hxs hlt
      rw [marks_at n j k hlt] at hy
      obtain rfl := Option.some.inj hy
      have hw : IntKind.i64.wrap (k + j + 1) = k + ((j + 1 : Nat) : Int) := by rw [IntWalk.i64_in _ (by omega)]; omega
      clear hd hy
      go_wp2
      go_round
      case rel => exact ⟨j + 1, by omega, by go_num, rfl⟩
      case measure => simp [intOf]; omega
    · go_wp2
      go_ret
      obtain rfl : j = n := by omega
      exact ⟨rfl, rfl⟩

end Go.Proofs.Ytgceeggfdomdjaa

namespace Go.Proofs.Ytgceeggfdomdjaa
set_option maxRecDepth 100000
set_option linter.unusedSimpArgs false
set_option linter.unusedVariables false
open Go.RowKit Go
set_option maxHeartbeats 1000000

def FI (zs : List Int) : List Value := zs.map (Value.int .i64)
/-- An owned slice of structs of sz numbers, by its cells. -/
structure OwFl (sz : Nat) (e : TypeId) (w : World) (lo : Nat) (A : Option Addr) (c n : Nat) (zs : List Int) : Prop where
  len : n * sz = zs.length
  owns : w.ownsRow lo e sz (.slice A n c) n (FI zs)
section
variable {sz : Nat} {e : TypeId} {w w' : World} {lo lo' c n k : Nat} {A : Option Addr} {zs : List Int}
theorem OwFl.of {α : Type} {enc : α → List Value} {f : α → List Int} {xs : List α} (h : Ow enc sz e w lo A c n xs) (hf : ∀ x, enc x = FI (f x)) (hl : ∀ x, (f x).length = sz) : OwFl sz e w lo A c n (xs.flatMap f) := by
  have e1 : xs.flatMap enc = FI (xs.flatMap f) := by
    clear h
    induction xs with
    | nil => rfl
    | cons x xs ih => rw [List.flatMap_cons, List.flatMap_cons, ih, hf]; simp [FI]
  have e2 : (xs.flatMap f).length = xs.length * sz := by
    clear h e1
    induction xs with
    | nil => simp
    | cons x xs ih => simp only [List.flatMap_cons, List.length_append, hl, ih, List.length_cons, Nat.succ_mul]; omega
  exact ⟨by rw [e2, h.1], by rw [← e1]; exact h.2⟩
theorem OwFl.form (h : OwFl sz e w lo A c n zs) : (A = none ∧ n = 0 ∧ c = 0) ∨ ∃ g cur, A = some ⟨g, 0, none⟩ ∧ lo ≤ g ∧ g < w.heap.size ∧ w.heap[g]? = some (.cells cur e (0, 0)) ∧ n ≤ c ∧ c ≤ maxLen ∧ cur.size = c * sz ∧ cur.toList.take (n * sz) = FI zs := by
  rcases h.owns.2 with ⟨hv, h0⟩ | ⟨g, cap, cur, hv, hb, hh, hn, hm, hs, ht⟩
  · injection hv with h1 h2 h3; exact .inl ⟨h1, h2, h3⟩
  · injection hv with h1 h2 h3
    subst h3
    exact .inr ⟨g, cur, h1, hb, (Array.getElem?_eq_some_iff.1 hh).1, hh, hn, hm, hs, ht⟩
theorem OwFl.keep_ (h : OwFl sz e w lo A c n zs) (hk : ∀ a, A = some a → w'.heap[a.block]? = w.heap[a.block]?) : OwFl sz e w' lo A c n zs := by
  refine ⟨h.len, h.owns.1, ?_⟩
  rcases h.owns.2 with hv | ⟨g, cap, cur, hv, hb, hh, r⟩
  · exact .inl hv
  · have hA : A = some ⟨g, 0, none⟩ := by injection hv
    exact .inr ⟨g, cap, cur, hv, hb, (hk _ hA).trans hh, r⟩
theorem OwFl.blk (h : OwFl sz e w lo A c n zs) {a : Addr} (ha : A = some a) : lo ≤ a.block ∧ a.block < w.heap.size := by
  rcases h.form with ⟨h1, _⟩ | ⟨g, cur, h1, h2, h3, _⟩
  · rw [h1] at ha; cases ha
  · rw [h1] at ha; cases ha; exact ⟨h2, h3⟩
theorem OwFl.cell (h : OwFl sz e w lo A c n zs) {i : Nat} (hi : i < n * sz) : ∃ g z, A = some ⟨g, 0, none⟩ ∧ lo ≤ g ∧ g < w.heap.size ∧ w.cell? ⟨g, i, none⟩ = some (.int .i64 z) ∧ ∀ i, w.frozen? ⟨g, i, none⟩ = false := by
  rcases h.form with ⟨_, h1, _⟩ | ⟨g, cur, h1, h2, h3, h4, _, _, _, h5⟩
  · subst h1; simp at hi
  · have hz : i < zs.length := by rw [← h.len]; exact hi
    have h6 : cur[i]? = some (.int .i64 zs[i]) := by
      have h7 := congrArg (fun l : List Value => l[i]?) h5
      simp only [List.getElem?_take, if_pos hi, FI, List.getElem?_map, List.getElem?_eq_getElem hz, Option.map_some] at h7
      rw [← h7]; simp
    refine ⟨g, zs[i], h1, h2, h3, ?_, fun i => by simp [World.frozen?, h4]⟩
    simp [World.cell?, h4, h6]
theorem marks_app : ∀ (a b : Nat) (k : Int), marks k (a + b) = marks k a ++ marks (k + a) b
  | 0, b, k => by simp [marks]
  | a + 1, b, k => by
    rw [show a + 1 + b = (a + b) + 1 from by omega, marks, marks, marks_app a b (k + 1), List.cons_append]
    congr 3; omega
theorem OwFl.put {z0 : List Int} {k : Int} {j g : Nat} (h : OwFl sz e w lo (some ⟨g, 0, none⟩) c n (marks k (j * sz) ++ z0.drop (j * sz))) (hl : n * sz = z0.length) (hj : j < n) :
    OwFl sz e (setCells w g (j * sz) (FI (marks (k + (j : Int) * sz) sz))) lo (some ⟨g, 0, none⟩) c n (marks k ((j + 1) * sz) ++ z0.drop ((j + 1) * sz)) := by
  have h1 : (j + 1) * sz = j * sz + sz := Nat.succ_mul j sz
  have h2 : j * sz + sz ≤ n * sz := by rw [← h1]; exact Nat.mul_le_mul_right _ hj
  have hm : ∀ (a : Int) (b : Nat), (FI (marks a b)).length = b := fun a b => by simp [FI, marks_len]
  have hle : j * sz + (FI (marks (k + (j : Int) * sz) sz)).length ≤ (FI (marks k (j * sz) ++ z0.drop (j * sz))).length := by
    rw [hm]
    simp only [FI, List.length_map, List.length_append, marks_len, List.length_drop]
    omega
  have := ownsRow_sets _ _ w h.owns hle
  rw [setMany_eq _ _ _ hle, hm] at this
  have e1 : (FI (marks k (j * sz) ++ z0.drop (j * sz))).take (j * sz) = FI (marks k (j * sz)) := by
    unfold FI
    rw [List.map_append, List.take_append_of_le_length (by simp [marks_len]), List.take_of_length_le (by simp [marks_len])]
  have e2 : (FI (marks k (j * sz) ++ z0.drop (j * sz))).drop (j * sz + sz) = FI (z0.drop ((j + 1) * sz)) := by
    unfold FI
    rw [List.map_append, List.drop_append, List.drop_of_length_le (by simp [marks_len]), List.length_map, marks_len, List.nil_append, ← List.map_drop, List.drop_drop, h1]
    congr 2; omega
  rw [e1, e2] at this
  refine ⟨by simp only [List.length_append, marks_len, List.length_drop]; omega, ?_⟩
  have e3 : FI (marks k ((j + 1) * sz) ++ z0.drop ((j + 1) * sz)) = FI (marks k (j * sz)) ++ FI (marks (k + (j : Int) * sz) sz) ++ FI (z0.drop ((j + 1) * sz)) := by
    rw [h1, marks_app]
    simp [FI]
  rw [e3]
  exact this
theorem setCells_ch {S : Nat → Prop} {w0 : World} {g : Nat} : ∀ {vs : List Value} {w : World} {i : Nat}, Ch S w0 w → S g → Ch S w0 (setCells w g i vs)
  | [], _, _, h, _ => h
  | v :: vs, w, i, h, hg => setCells_ch (vs := vs) (h.setCell (p := ⟨g, i, none⟩) (Or.inl hg) v) hg
theorem OwFl.rd (h : OwFl sz e w lo A c n zs) : Rd w lo A c sz n (FI zs) := Rd.of_own h.owns
/-- What marks may be read. -/
theorem Rd.marks {k : Int} {N : Nat} (h : Rd w lo A c sz n (FI (Go.Proofs.Ytgceeggfdomdjaa.marks k N))) (hn : 0 < n) : ∃ g off, A = some ⟨g, off, none⟩ ∧ ∀ i, i < N → w.cell? ⟨g, off + i, none⟩ = some (.int .i64 (k + (i : Nat))) := by
  cases A with
  | none => have := h.nil rfl; have := h.le; omega
  | some a =>
    obtain ⟨h1, h2, h3, h4⟩ := h.cells a rfl hn
    obtain ⟨g, off, spot⟩ := a
    dsimp only at h1 h2 h3 h4
    subst h1
    refine ⟨g, off, rfl, fun i hi => h4 i _ ?_⟩
    simp only [FI, List.getElem?_map, marks_at N i k hi, Option.map_some]
end
def Sw.Ent.ints (x : Sw.Ent) : List Int := [x.kind, x.ticket, x.who, x.price]
def Sw.Deal.ints (x : Sw.Deal) : List Int := [x.ticket, x.seller, x.price, x.buyer, x.due]
def Sw.Req.ints (x : Sw.Req) : List Int := [x.user, x.n, x.kind, x.ticket, x.who, x.price]

theorem markEnt_c (A : Option Addr) (c n lo : Nat) (e : TypeId) (zs : List Int) (k : Int) (w : World) (h : OwFl 4 e w lo A c n zs) (hk0 : 0 ≤ k) (hk1 : k ≤ 67108864) (hn : n ≤ 4194304) : Calls Try.prog 122 #[.slice A n c, .int .i64 k] w fun E w' => E = .returned (.int .i64 (k + (n : Int) * 4)) ∧ OwFl 4 e w' lo A c n (marks k (n * 4)) ∧ Ch (atA A) w w' := by

  go_enter Try.func122, Try.ntmps122
  go_wp2_with fail
  go_loopw [5, 1] (fun i kk wr => ∃ j : Nat, j ≤ n ∧ i = .int .i64 j ∧ kk = .int .i64 (k + (j : Int) * 4) ∧ Ch (atA A) w wr ∧ OwFl 4 e wr lo A c n (marks k (j * 4) ++ zs.drop (j * 4))) (fun i _ _ => n - (intOf i).toNat)
  case atStart => exact ⟨0, Nat.zero_le _, rfl, by simp, Ch.refl _ _, by simpa [marks] using h⟩
  case round =>
    obtain ⟨j, hj, rfl, rfl, hb2, hrel⟩ := hrel
    by_cases hlt : j < n
    · obtain ⟨g0, z0, hA0, hlo0, hlt0, q0, hfr⟩ := OwFl.cell hrel (i := j * 4) (by omega)
      subst hA0
      obtain ⟨g1, z1, hA1, _, _, q1, _⟩ := OwFl.cell hrel (i := j * 4 + 1) (by omega); cases hA1
      obtain ⟨g2, z2, hA2, _, _, q2, _⟩ := OwFl.cell hrel (i := j * 4 + 2) (by omega); cases hA2
      obtain ⟨g3, z3, hA3, _, _, q3, _⟩ := OwFl.cell hrel (i := j * 4 + 3) (by omega); cases hA3
      have Hs := Lib.hid (OwFl.put hrel h.len hlt)
      have Hb := Lib.hid hb2
      clear hrel hb2
      go_wp2_with fail
      go_roundw
      case rel =>
        refine ⟨j + 1, by omega, by go_num, int_i (by omega), ?_, ?_⟩
        · exact (setCells_ch (vs := FI (marks (k + (j : Int) * 4) 4)) Hb.out ⟨⟨g0, 0, none⟩, rfl, rfl⟩)
        · exact Hs.out
      case measure => simp [intOf]; omega
    · have Hrel := Lib.hid hrel; clear hrel
      go_wp2_with fail
      go_ret
      obtain rfl : j = n := by omega
      have := Hrel.out
      rw [List.drop_of_length_le (by have := h.len; omega), List.append_nil] at this
      exact ⟨rfl, this, hb2⟩

theorem markDeal_c (A : Option Addr) (c n lo : Nat) (e : TypeId) (zs : List Int) (k : Int) (w : World) (h : OwFl 5 e w lo A c n zs) (hk0 : 0 ≤ k) (hk1 : k ≤ 67108864) (hn : n ≤ 4194304) : Calls Try.prog 124 #[.slice A n c, .int .i64 k] w fun E w' => E = .returned (.int .i64 (k + (n : Int) * 5)) ∧ OwFl 5 e w' lo A c n (marks k (n * 5)) ∧ Ch (atA A) w w' := by

  go_enter Try.func124, Try.ntmps124
  go_wp2_with fail
  go_loopw [5, 1] (fun i kk wr => ∃ j : Nat, j ≤ n ∧ i = .int .i64 j ∧ kk = .int .i64 (k + (j : Int) * 5) ∧ Ch (atA A) w wr ∧ OwFl 5 e wr lo A c n (marks k (j * 5) ++ zs.drop (j * 5))) (fun i _ _ => n - (intOf i).toNat)
  case atStart => exact ⟨0, Nat.zero_le _, rfl, by simp, Ch.refl _ _, by simpa [marks] using h⟩
  case round =>
    obtain ⟨j, hj, rfl, rfl, hb2, hrel⟩ := hrel
    by_cases hlt : j < n
    · obtain ⟨g0, z0, hA0, hlo0, hlt0, q0, hfr⟩ := OwFl.cell hrel (i := j * 5) (by omega)
      subst hA0
      obtain ⟨g1, z1, hA1, _, _, q1, _⟩ := OwFl.cell hrel (i := j * 5 + 1) (by omega); cases hA1
      obtain ⟨g2, z2, hA2, _, _, q2, _⟩ := OwFl.cell hrel (i := j * 5 + 2) (by omega); cases hA2
      obtain ⟨g3, z3, hA3, _, _, q3, _⟩ := OwFl.cell hrel (i := j * 5 + 3) (by omega); cases hA3
      obtain ⟨g4, z4, hA4, _, _, q4, _⟩ := OwFl.cell hrel (i := j * 5 + 4) (by omega); cases hA4
      have Hs := Lib.hid (OwFl.put hrel h.len hlt)
      have Hb := Lib.hid hb2
      clear hrel hb2
      go_wp2_with fail
      go_roundw
      case rel =>
        refine ⟨j + 1, by omega, by go_num, int_i (by omega), ?_, ?_⟩
        · exact (setCells_ch (vs := FI (marks (k + (j : Int) * 5) 5)) Hb.out ⟨⟨g0, 0, none⟩, rfl, rfl⟩)
        · exact Hs.out
      case measure => simp [intOf]; omega
    · have Hrel := Lib.hid hrel; clear hrel
      go_wp2_with fail
      go_ret
      obtain rfl : j = n := by omega
      have := Hrel.out
      rw [List.drop_of_length_le (by have := h.len; omega), List.append_nil] at this
      exact ⟨rfl, this, hb2⟩

theorem heldEnt_c (A : Option Addr) (c n lo : Nat) (k : Int) (w : World) (h : Rd w lo A c 4 n (FI (marks k (n * 4)))) (hk0 : 0 ≤ k) (hk1 : k ≤ 67108864) (hn : n ≤ 4194304) : Calls Try.prog 125 #[.slice A n c, .int .i64 k] w fun E w' => E = .returned (.int .i64 (k + (n : Int) * 4)) ∧ w = w' := by

  have hle := h.le
  go_enter Try.func125, Try.ntmps125
  go_wp2
  go_loop [5, 1] (fun i kk => ∃ j : Nat, j ≤ n ∧ i = .int .i64 j ∧ kk = .int .i64 (k + (j : Int) * 4)) (fun i _ => n - (intOf i).toNat)
  case atStart => exact ⟨0, Nat.zero_le _, rfl, by simp⟩
  case round =>
    obtain ⟨j, hj, rfl, rfl⟩ := hrel
    by_cases hlt : j < n
    · obtain ⟨g, off, rfl, hq⟩ := Rd.marks h (by omega)
      have q0 := hq (j * 4 + 0) (by omega); rw [show off + (j * 4 + 0) = off + j * 4 from by omega] at q0
      have q1 := hq (j * 4 + 1) (by omega); rw [show off + (j * 4 + 1) = off + j * 4 + 1 from by omega] at q1
      have q2 := hq (j * 4 + 2) (by omega); rw [show off + (j * 4 + 2) = off + j * 4 + 2 from by omega] at q2
      have q3 := hq (j * 4 + 3) (by omega); rw [show off + (j * 4 + 3) = off + j * 4 + 3 from by omega] at q3
      have f0 : k + ((j * 4 + 0 : Nat) : Int) = k + (j : Int) * 4 := by omega
      rw [f0] at q0
      clear f0
      have f1 : k + ((j * 4 + 1 : Nat) : Int) = k + (j : Int) * 4 + 1 := by omega
      rw [f1] at q1
      clear f1
      have f2 : k + ((j * 4 + 2 : Nat) : Int) = k + (j : Int) * 4 + 1 + 1 := by omega
      rw [f2] at q2
      clear f2
      have f3 : k + ((j * 4 + 3 : Nat) : Int) = k + (j : Int) * 4 + 1 + 1 + 1 := by omega
      rw [f3] at q3
      clear f3
      clear hq
      go_wp2
      go_round
      case rel => exact ⟨j + 1, by omega, by go_num, int_i (by omega)⟩
      case measure => simp [intOf]; omega
    · go_wp2
      go_ret
      obtain rfl : j = n := by omega
      exact ⟨rfl, rfl⟩

theorem heldDeal_c (A : Option Addr) (c n lo : Nat) (k : Int) (w : World) (h : Rd w lo A c 5 n (FI (marks k (n * 5)))) (hk0 : 0 ≤ k) (hk1 : k ≤ 67108864) (hn : n ≤ 4194304) : Calls Try.prog 127 #[.slice A n c, .int .i64 k] w fun E w' => E = .returned (.int .i64 (k + (n : Int) * 5)) ∧ w = w' := by

  have hle := h.le
  go_enter Try.func127, Try.ntmps127
  go_wp2
  go_loop [5, 1] (fun i kk => ∃ j : Nat, j ≤ n ∧ i = .int .i64 j ∧ kk = .int .i64 (k + (j : Int) * 5)) (fun i _ => n - (intOf i).toNat)
  case atStart => exact ⟨0, Nat.zero_le _, rfl, by simp⟩
  case round =>
    obtain ⟨j, hj, rfl, rfl⟩ := hrel
    by_cases hlt : j < n
    · obtain ⟨g, off, rfl, hq⟩ := Rd.marks h (by omega)
      have q0 := hq (j * 5 + 0) (by omega); rw [show off + (j * 5 + 0) = off + j * 5 from by omega] at q0
      have q1 := hq (j * 5 + 1) (by omega); rw [show off + (j * 5 + 1) = off + j * 5 + 1 from by omega] at q1
      have q2 := hq (j * 5 + 2) (by omega); rw [show off + (j * 5 + 2) = off + j * 5 + 2 from by omega] at q2
      have q3 := hq (j * 5 + 3) (by omega); rw [show off + (j * 5 + 3) = off + j * 5 + 3 from by omega] at q3
      have q4 := hq (j * 5 + 4) (by omega); rw [show off + (j * 5 + 4) = off + j * 5 + 4 from by omega] at q4
      have f0 : k + ((j * 5 + 0 : Nat) : Int) = k + (j : Int) * 5 := by omega
      rw [f0] at q0
      clear f0
      have f1 : k + ((j * 5 + 1 : Nat) : Int) = k + (j : Int) * 5 + 1 := by omega
      rw [f1] at q1
      clear f1
      have f2 : k + ((j * 5 + 2 : Nat) : Int) = k + (j : Int) * 5 + 1 + 1 := by omega
      rw [f2] at q2
      clear f2
      have f3 : k + ((j * 5 + 3 : Nat) : Int) = k + (j : Int) * 5 + 1 + 1 + 1 := by omega
      rw [f3] at q3
      clear f3
      have f4 : k + ((j * 5 + 4 : Nat) : Int) = k + (j : Int) * 5 + 1 + 1 + 1 + 1 := by omega
      rw [f4] at q4
      clear f4
      clear hq
      go_wp2
      go_round
      case rel => exact ⟨j + 1, by omega, by go_num, int_i (by omega)⟩
      case measure => simp [intOf]; omega
    · go_wp2
      go_ret
      obtain rfl : j = n := by omega
      exact ⟨rfl, rfl⟩

end Go.Proofs.Ytgceeggfdomdjaa

namespace Go.Proofs.Ytgceeggfdomdjaa
set_option maxRecDepth 100000
set_option linter.unusedSimpArgs false
set_option linter.unusedVariables false
open Go.RowKit Go
set_option maxHeartbeats 1000000

/-- A market that holds marks from k on. -/
structure MkM (w : World) (lo : Nat) (aL : Option Addr) (aLc aLn : Nat) (aP : Option Addr) (aPc aPn : Nat) (aD : Option Addr) (aDc aDn : Nat) (aN : Option Addr) (aNc aNn : Nat) (aS : Option Addr) (aSc aSn : Nat) (k : Int) : Prop where
  log : Rd w lo aL aLc 4 aLn (FI (marks k (aLn * 4)))
  purses : RI w lo aP aPc aPn (marks (k + (aLn : Int) * 4) aPn)
  deals : Rd w lo aD aDc 5 aDn (FI (marks (k + (aLn : Int) * 4 + aPn) (aDn * 5)))
  nums : RI w lo aN aNc aNn (marks (k + (aLn : Int) * 4 + aPn + (aDn : Int) * 5) aNn)
  said : RI w lo aS aSc aSn (marks (k + (aLn : Int) * 4 + aPn + (aDn : Int) * 5 + aNn) aSn)
theorem MkM.keep {w w' : World} {lo : Nat} {aL : Option Addr} {aLc aLn : Nat} {aP : Option Addr} {aPc aPn : Nat} {aD : Option Addr} {aDc aDn : Nat} {aN : Option Addr} {aNc aNn : Nat} {aS : Option Addr} {aSc aSn : Nat} {k : Int} (h : MkM w lo aL aLc aLn aP aPc aPn aD aDc aDn aN aNc aNn aS aSc aSn k) (hk : KF lo w w') : MkM w' lo aL aLc aLn aP aPc aPn aD aDc aDn aN aNc aNn aS aSc aSn k := ⟨h.1.keep hk, h.2.keep hk, h.3.keep hk, h.4.keep hk, h.5.keep hk⟩
theorem MkM.less {w : World} {lo lo' : Nat} {aL : Option Addr} {aLc aLn : Nat} {aP : Option Addr} {aPc aPn : Nat} {aD : Option Addr} {aDc aDn : Nat} {aN : Option Addr} {aNc aNn : Nat} {aS : Option Addr} {aSc aSn : Nat} {k : Int} (h : MkM w lo aL aLc aLn aP aPc aPn aD aDc aDn aN aNc aNn aS aSc aSn k) (hl : lo' ≤ lo) : MkM w lo' aL aLc aLn aP aPc aPn aD aDc aDn aN aNc aNn aS aSc aSn k := ⟨h.1.less hl, h.2.less hl, h.3.less hl, h.4.less hl, h.5.less hl⟩
section
variable {α : Type} {enc : α → List Value} {sz : Nat} {e : TypeId} {τ : Nat → Nat} {t u : Nat} {w w' w0 : World} {lo c n : Nat} {A : Option Addr} {xs : List α}
theorem OwT.sm (h : OwT enc sz e τ t w lo A c n xs) (h1 : 1 ≤ t) (h5 : t ≤ 5) : ∀ i, atA A i → SM lo τ i := fun i ⟨a, ha, hi⟩ => by
  have hb := (h.ow.blk ha).1
  have ht := h.tag a ha
  subst hi
  exact ⟨hb, by omega, by omega⟩
/-- What is written to one slice leaves those of another mark. -/
theorem OwT.other (h : OwT enc sz e τ t w lo A c n xs) (hb : Ch (atA A) w0 w') (k : KT τ u lo w w0) (hu : u ≠ t) : KT τ u lo w w' :=
  KT.ch hb k fun i ⟨a, ha, hi⟩ => .inr (by rw [hi, h.tag a ha]; exact Ne.symm hu)
end
theorem FI_I (xs : List Int) : xs.flatMap encI = FI xs := by unfold FI; induction xs with
  | nil => rfl
  | cons x xs ih => rw [List.flatMap_cons, ih]; rfl

theorem KT.atA {τ : Nat → Nat} {t u lo : Nat} {w w0 w' : World} {B : Option Addr} (hb : Ch (atA B) w0 w') (k : KT τ t lo w w0) (tb : ∀ a, B = some a → τ a.block = u) (hu : t ≠ u) : KT τ t lo w w' :=
  KT.ch hb k fun i ⟨a, ha, hi⟩ => .inr (by rw [hi, tb a ha]; exact Ne.symm hu)
theorem OwFl.keepT {sz : Nat} {e : TypeId} {τ : Nat → Nat} {t lo c n : Nat} {w w' : World} {A : Option Addr} {zs : List Int} (h : OwFl sz e w lo A c n zs) (ta : ∀ a, A = some a → τ a.block = t) (k : KT τ t lo w w') : OwFl sz e w' lo A c n zs :=
  h.keep_ fun a ha => k.block a.block (h.blk ha).1 (h.blk ha).2 (ta a ha)
theorem Ow.keepT {α : Type} {enc : α → List Value} {sz : Nat} {e : TypeId} {τ : Nat → Nat} {t lo c n : Nat} {w w' : World} {A : Option Addr} {xs : List α} (h : Ow enc sz e w lo A c n xs) (ta : ∀ a, A = some a → τ a.block = t) (k : KT τ t lo w w') : Ow enc sz e w' lo A c n xs :=
  h.keep_ fun a ha => k.block a.block (h.blk ha).1 (h.blk ha).2 (ta a ha)

/-- A block that lies above what was turned. -/
theorem boxed_kept {A : Option Addr} {W w1 : World} {g : Nat} (hb : Ch (atA A) W w1) (hA : ∀ a, A = some a → a.block < g) (hg : g < W.heap.size) : ∀ o, w1.cell? ⟨g, o, none⟩ = W.cell? ⟨g, o, none⟩ :=
  fun o => hb.cell (p := ⟨g, o, none⟩) hg (fun ⟨a, ha, hk⟩ => absurd (hA a ha) (by rw [← hk]; exact Nat.lt_irrefl _))

theorem markMkt_c (aL : Option Addr) (aLc aLn : Nat) (aP : Option Addr) (aPc aPn : Nat) (aD : Option Addr) (aDc aDn : Nat) (aN : Option Addr) (aNc aNn : Nat) (aS : Option Addr) (aSc aSn : Nat) (m : Sw.Mkt) (lo : Nat) (τ : Nat → Nat) (k : Int) (w : World) (hM : OwM τ w lo aL aLc aLn aP aPc aPn aD aDc aDn aN aNc aNn aS aSc aSn m) (hk0 : 0 ≤ k) (hk1 : k ≤ 1048576) (hn : aLn + aPn + aDn + aNn + aSn ≤ 1048576) : Calls Try.prog 54 #[.agg #[.slice aL aLn aLc, .slice aP aPn aPc, .slice aD aDn aDc, .int .i64 m.clock, .slice aN aNn aNc, .slice aS aSn aSc], .int .i64 k] w fun E w' => E = .returned (.int .i64 (k + (aLn : Int) * 4 + aPn + (aDn : Int) * 5 + aNn + aSn)) ∧ MkM w' lo aL aLc aLn aP aPc aPn aD aDc aDn aN aNc aNn aS aSc aSn k ∧ Ch (SM lo τ) w w' := by
  have T1 := hM.log.tag
  have T2 := hM.purses.tag
  have T3 := hM.deals.tag
  have T4 := hM.nums.tag
  have T5 := hM.said.tag
  go_enter Try.func54, Try.ntmps54
  go_wp2_with fail
  apply Calls.mono
  apply (markEnt_c (lo := lo) (e := 134) (zs := m.log.flatMap Sw.Ent.ints))
  · exact OwFl.of (hM.log.ow.keep (by (exact kf_))) (fun _ => rfl) (fun _ => rfl)
  · omega
  · omega
  · omega
  rintro E w1 ⟨rfl, h1, hb1⟩
  have K2 : KT τ 2 lo w w1 := KT.atA hb1 (by (with_reducible repeat (first | exact tR _ _ _ _ | apply tA | apply tD | apply tN | (apply tE; assumption) | (refine tS ?_ (by first | exact Or.inl (by first | omega | (simp only [zA, zC, zD, zN]; omega))))))) T1 (by decide)
  have K3 : KT τ 3 lo w w1 := KT.atA hb1 (by (with_reducible repeat (first | exact tR _ _ _ _ | apply tA | apply tD | apply tN | (apply tE; assumption) | (refine tS ?_ (by first | exact Or.inl (by first | omega | (simp only [zA, zC, zD, zN]; omega))))))) T1 (by decide)
  have K4 : KT τ 4 lo w w1 := KT.atA hb1 (by (with_reducible repeat (first | exact tR _ _ _ _ | apply tA | apply tD | apply tN | (apply tE; assumption) | (refine tS ?_ (by first | exact Or.inl (by first | omega | (simp only [zA, zC, zD, zN]; omega))))))) T1 (by decide)
  have K5 : KT τ 5 lo w w1 := KT.atA hb1 (by (with_reducible repeat (first | exact tR _ _ _ _ | apply tA | apply tD | apply tN | (apply tE; assumption) | (refine tS ?_ (by first | exact Or.inl (by first | omega | (simp only [zA, zC, zD, zN]; omega))))))) T1 (by decide)
  have c1 : Ch (SM lo τ) w w1 := (show Ch (SM lo τ) w _ from (by (exact ext_))).trans (hb1.mono (T := SM lo τ) (fun i _ hi => hM.log.sm (by decide) (by decide) i hi))
  have x1 := boxed_kept (g := w.heap.size) hb1 (fun a ha => (hM.log.ow.blk ha).2) (by exact sz_)
  have z1 := hb1.size
  (try simp only [zA, zC, zD] at z1)
  clear hb1
  go_wp2_with fail
  apply Calls.mono
  apply (markIntS_c (lo := lo) (xs := m.purses))
  · exact (hM.purses.keep K2).ow
  · omega
  · omega
  · omega
  rintro E w2 ⟨rfl, h2, hb2⟩
  replace h1 := h1.keepT T1 (KT.atA hb2 (KT.refl _ _ _ _) T2 (by decide))
  replace K3 := KT.atA hb2 K3 T2 (by decide)
  replace K4 := KT.atA hb2 K4 T2 (by decide)
  replace K5 := KT.atA hb2 K5 T2 (by decide)
  replace c1 := c1.trans (hb2.mono (T := SM lo τ) (fun i _ hi => hM.purses.sm (by decide) (by decide) i hi))
  have x2 := boxed_kept (g := w.heap.size) hb2 (fun a ha => (hM.purses.ow.blk ha).2) (by exact sz_)
  have z2 := hb2.size
  (try simp only [zA, zC, zD] at z2)
  clear hb2
  go_wp2_with fail
  apply Calls.mono
  apply (markDeal_c (lo := lo) (e := 73) (zs := m.deals.flatMap Sw.Deal.ints))
  · exact OwFl.of (hM.deals.keep K3).ow (fun _ => rfl) (fun _ => rfl)
  · omega
  · omega
  · omega
  rintro E w3 ⟨rfl, h3, hb3⟩
  replace h1 := h1.keepT T1 (KT.atA hb3 (KT.refl _ _ _ _) T3 (by decide))
  replace h2 := h2.keepT T2 (KT.atA hb3 (KT.refl _ _ _ _) T3 (by decide))
  replace K4 := KT.atA hb3 K4 T3 (by decide)
  replace K5 := KT.atA hb3 K5 T3 (by decide)
  replace c1 := c1.trans (hb3.mono (T := SM lo τ) (fun i _ hi => hM.deals.sm (by decide) (by decide) i hi))
  have x3 := boxed_kept (g := w.heap.size) hb3 (fun a ha => (hM.deals.ow.blk ha).2) (by exact sz_)
  have z3 := hb3.size
  (try simp only [zA, zC, zD] at z3)
  clear hb3
  go_wp2_with fail
  apply Calls.mono
  apply (markIntS_c (lo := lo) (xs := m.nums))
  · exact (hM.nums.keep K4).ow
  · omega
  · omega
  · omega
  rintro E w4 ⟨rfl, h4, hb4⟩
  replace h1 := h1.keepT T1 (KT.atA hb4 (KT.refl _ _ _ _) T4 (by decide))
  replace h2 := h2.keepT T2 (KT.atA hb4 (KT.refl _ _ _ _) T4 (by decide))
  replace h3 := h3.keepT T3 (KT.atA hb4 (KT.refl _ _ _ _) T4 (by decide))
  replace K5 := KT.atA hb4 K5 T4 (by decide)
  replace c1 := c1.trans (hb4.mono (T := SM lo τ) (fun i _ hi => hM.nums.sm (by decide) (by decide) i hi))
  have x4 := boxed_kept (g := w.heap.size) hb4 (fun a ha => (hM.nums.ow.blk ha).2) (by exact sz_)
  have z4 := hb4.size
  (try simp only [zA, zC, zD] at z4)
  clear hb4
  go_wp2_with fail
  apply Calls.mono
  apply (markIntS_c (lo := lo) (xs := m.said))
  · exact (hM.said.keep K5).ow
  · omega
  · omega
  · omega
  rintro E w5 ⟨rfl, h5, hb5⟩
  replace h1 := h1.keepT T1 (KT.atA hb5 (KT.refl _ _ _ _) T5 (by decide))
  replace h2 := h2.keepT T2 (KT.atA hb5 (KT.refl _ _ _ _) T5 (by decide))
  replace h3 := h3.keepT T3 (KT.atA hb5 (KT.refl _ _ _ _) T5 (by decide))
  replace h4 := h4.keepT T4 (KT.atA hb5 (KT.refl _ _ _ _) T5 (by decide))
  replace c1 := c1.trans (hb5.mono (T := SM lo τ) (fun i _ hi => hM.said.sm (by decide) (by decide) i hi))
  have x5 := boxed_kept (g := w.heap.size) hb5 (fun a ha => (hM.said.ow.blk ha).2) (by exact sz_)
  have z5 := hb5.size
  (try simp only [zA, zC, zD] at z5)
  clear hb5
  go_wp2_with fail
  go_ret
  exact ⟨rfl, ⟨h1.rd, h2.rs, h3.rd, h4.rs, h5.rs⟩, c1⟩

theorem heldMkt_c (aL : Option Addr) (aLc aLn : Nat) (aP : Option Addr) (aPc aPn : Nat) (aD : Option Addr) (aDc aDn : Nat) (aN : Option Addr) (aNc aNn : Nat) (aS : Option Addr) (aSc aSn : Nat) (v : Int) (lo : Nat) (k : Int) (w : World) (hM : MkM w lo aL aLc aLn aP aPc aPn aD aDc aDn aN aNc aNn aS aSc aSn k) (hk0 : 0 ≤ k) (hk1 : k ≤ 1048576) (hn : aLn + aPn + aDn + aNn + aSn ≤ 1048576) : Calls Try.prog 55 #[.agg #[.slice aL aLn aLc, .slice aP aPn aPc, .slice aD aDn aDc, .int .i64 v, .slice aN aNn aNc, .slice aS aSn aSc], .int .i64 k] w fun E w' => E = .returned (.int .i64 (k + (aLn : Int) * 4 + aPn + (aDn : Int) * 5 + aNn + aSn)) ∧ Ex w w' := by
  obtain ⟨h1, h2, h3, h4, h5⟩ := hM
  go_enter Try.func55, Try.ntmps55
  go_wp2_with (first | (go_at_call 125; apply Calls.mono; apply heldEnt_c; (apply Rd.keep h1; (exact kf_)); omega; omega; omega; rintro E w' ⟨rfl, rfl⟩) | (go_at_call 127; apply Calls.mono; apply heldDeal_c; (apply Rd.keep h3; (exact kf_)); omega; omega; omega; rintro E w' ⟨rfl, rfl⟩) | (go_at_call 126; apply Calls.mono; apply heldIntS_c; (apply Rs.at0 h2; (exact kf_)); omega; omega; omega; rintro E w' ⟨rfl, rfl⟩) | (go_at_call 126; apply Calls.mono; apply heldIntS_c; (apply Rs.at0 h4; (exact kf_)); omega; omega; omega; rintro E w' ⟨rfl, rfl⟩) | (go_at_call 126; apply Calls.mono; apply heldIntS_c; (apply Rs.at0 h5; (exact kf_)); omega; omega; omega; rintro E w' ⟨rfl, rfl⟩))
  all_goals (go_ret; exact ⟨rfl, ext_⟩)
end Go.Proofs.Ytgceeggfdomdjaa

namespace Go.Proofs.Ytgceeggfdomdjaa
set_option maxRecDepth 100000
set_option linter.unusedSimpArgs false
set_option linter.unusedVariables false
open Go.RowKit Go
set_option maxHeartbeats 1000000

def Sw.Mkt.len (m : Sw.Mkt) : Nat := m.log.length + m.purses.length + m.deals.length + m.nums.length + m.said.length
theorem monTurn_len (p : List Int) (who n : Int) : (Sw.monTurn p who n).length = p.length := by
  unfold Sw.monTurn Sw.turned
  split <;> simp
theorem backPurses_len (t : Int) : ∀ (ds : List Sw.Deal) (p : List Int), (ds.foldl (Sw.backPurse t) p).length = p.length
  | [], p => rfl
  | d :: ds, p => by
    rw [List.foldl_cons, backPurses_len t ds]
    unfold Sw.backPurse
    split
    · exact monTurn_len _ _ _
    · rfl
theorem mktTick_len (m : Sw.Mkt) : (Sw.mktTick m).1.len ≤ m.len := by
  unfold Sw.mktTick
  split
  · split
    · exact Nat.le_refl _
    · simp [Sw.tick, Sw.Mkt.len, backPurses_len]
  · simp [Sw.mktZ, Sw.Mkt.len]
section
variable {τ : Nat → Nat} {w w' w0 : World} {lo lo' hi : Nat}
theorem RM.len {aL : Option Addr} {aLc aLn : Nat} {aP : Option Addr} {aPc aPn : Nat} {aD : Option Addr} {aDc aDn : Nat} {aN : Option Addr} {aNc aNn : Nat} {aS : Option Addr} {aSc aSn : Nat} {m : Sw.Mkt} (h : RM w lo aL aLc aLn aP aPc aPn aD aDc aDn aN aNc aNn aS aSc aSn m) : aLn + aPn + aDn + aNn + aSn = m.len := by
  have h1 := h.1.1; have h2 := h.2.1; have h3 := h.3.1; have h4 := h.4.1; have h5 := h.5.1
  unfold Sw.Mkt.len; omega
theorem KF.trans {a b c : World} (h : KF lo a b) (k : KF lo b c) : KF lo a c :=
  ⟨Nat.le_trans h.size k.size, fun i h1 h2 => (k.block i h1 (Nat.lt_of_lt_of_le h2 h.size)).trans (h.block i h1 h2)⟩
/-- Blocks from l on, but for those from h on. -/
def RG2 (l h : Nat) : Nat → Prop := fun b => l ≤ b ∧ b < h
/-- A market that is marked: what has turned lies in its range. -/
theorem OwM.ranged {aL : Option Addr} {aLc aLn : Nat} {aP : Option Addr} {aPc aPn : Nat} {aD : Option Addr} {aDc aDn : Nat} {aN : Option Addr} {aNc aNn : Nat} {aS : Option Addr} {aSc aSn : Nat} {m : Sw.Mkt} (h : OwM τ w lo aL aLc aLn aP aPc aPn aD aDc aDn aN aNc aNn aS aSc aSn m) (hk : KF lo w w') : OwM (glue τ w.heap.size (fun _ => 0)) w' lo aL aLc aLn aP aPc aPn aD aDc aDn aN aNc aNn aS aSc aSn m := (h.glueL (Nat.le_refl _)).keepF hk
theorem SM.range {b : Nat} (h : SM lo (glue τ hi (fun _ => 0)) b) : RG2 lo hi b := by
  obtain ⟨h1, h2, h3⟩ := h
  refine ⟨h1, ?_⟩
  by_cases hb : b < hi
  · exact hb
  · unfold glue at h2
    rw [if_neg hb] at h2
    exact absurd (show 1 ≤ 0 from h2) (by decide)
theorem KF.range (hb : Ch (RG2 lo hi) w w') (k : KF lo' w0 w) (hl : hi ≤ lo' ∨ w0.heap.size ≤ lo) : KF lo' w0 w' :=
  ⟨Nat.le_trans k.size hb.size, fun b h1 h2 => (hb.block b (Nat.lt_of_lt_of_le h2 k.size) (fun h => by have h3 : lo ≤ b := h.1; have h4 : b < hi := h.2; omega)).trans (k.block b h1 h2)⟩
theorem OwM.keepR {aL : Option Addr} {aLc aLn : Nat} {aP : Option Addr} {aPc aPn : Nat} {aD : Option Addr} {aDc aDn : Nat} {aN : Option Addr} {aNc aNn : Nat} {aS : Option Addr} {aSc aSn : Nat} {m : Sw.Mkt} (h : OwM τ w0 lo' aL aLc aLn aP aPc aPn aD aDc aDn aN aNc aNn aS aSc aSn m) (k : KF lo' w0 w) (hb : Ch (RG2 lo hi) w w') (hl : hi ≤ lo' ∨ w0.heap.size ≤ lo) : OwM τ w' lo' aL aLc aLn aP aPc aPn aD aDc aDn aN aNc aNn aS aSc aSn m ∧ KF lo' w0 w' :=
  ⟨h.keepF (KF.range hb k hl), KF.range hb k hl⟩
theorem RG2.rules (hb : Ch (RG2 lo hi) w w') {g : Nat} (hg : g < lo ∨ hi ≤ g) (hs : g < w.heap.size) : (∀ o, w'.cell? ⟨g, o, none⟩ = w.cell? ⟨g, o, none⟩) :=
  fun o => hb.cell (p := ⟨g, o, none⟩) hs (fun h => by have h1 : lo ≤ g := h.1; have h2 : g < hi := h.2; omega)
end
end Go.Proofs.Ytgceeggfdomdjaa

namespace Go.Proofs.Ytgceeggfdomdjaa
set_option maxRecDepth 100000
set_option linter.unusedSimpArgs false
set_option linter.unusedVariables false
open Go.RowKit Go
set_option maxHeartbeats 16000000

theorem mktDo_len (m : Sw.Mkt) (r : Sw.Req) : (Sw.mktDo m r).1.len ≤ 66 := by
  unfold Sw.mktDo
  cases g1 : Sw.mktOk m
  · simp [Sw.mktZ, Sw.Mkt.len]
  cases g2 : Sw.reqOk r
  · simp [Sw.mktZ, Sw.Mkt.len]
  obtain ⟨rows, hok⟩ := Sw.mktOk_iff.1 g1
  obtain ⟨rows2, hk2⟩ := Sw.doIt_ok hok g2
  obtain ⟨q1, q2, q3, q4, q5⟩ := MOk_len hk2
  simp only [Bool.and_self, if_true, Sw.Mkt.len]
  omega
/-- What a region leaves that makes a market and lays it in a box of its own. -/
def Boxed (l : Nat) (wx : World) (g lo : Nat) (aL : Option Addr) (aLc aLn : Nat) (aP : Option Addr) (aPc aPn : Nat) (aD : Option Addr) (aDc aDn : Nat) (aN : Option Addr) (aNc aNn : Nat) (aS : Option Addr) (aSc aSn : Nat) (m : Sw.Mkt) (τ : Nat → Nat) : Prop :=
  MktAt wx g 0 aL aLc aLn aP aPc aPn aD aDc aDn aN aNc aNn aS aSc aSn m.clock ∧ OwM τ wx lo aL aLc aLn aP aPc aPn aD aDc aDn aN aNc aNn aS aSc aSn m ∧ l ≤ g ∧ l ≤ lo ∧ (∀ b, wx.heap.size ≤ b → τ b = 0) ∧ ¬ SM lo τ g
theorem Boxed.mk1 {l : Nat} {wc wx : World} {g lo : Nat} {aL : Option Addr} {aLc aLn : Nat} {aP : Option Addr} {aPc aPn : Nat} {aD : Option Addr} {aDc aDn : Nat} {aN : Option Addr} {aNc aNn : Nat} {aS : Option Addr} {aSc aSn : Nat} {m : Sw.Mkt} {τ : Nat → Nat} (hM : OwM τ wc lo aL aLc aLn aP aPc aPn aD aDc aDn aN aNc aNn aS aSc aSn m) (hk : KF lo wc wx) (hA : MktAt wx g 0 aL aLc aLn aP aPc aPn aD aDc aDn aN aNc aNn aS aSc aSn m.clock) (hl : l ≤ g) (hlo : l ≤ lo) (hg : g < lo ∨ wc.heap.size ≤ g) : Boxed l wx g lo aL aLc aLn aP aPc aPn aD aDc aDn aN aNc aNn aS aSc aSn m (glue τ wc.heap.size (fun _ => 0)) :=
  ⟨hA, (hM.glueL (Nat.le_refl _)).keepF hk, hl, hlo, fun b hb => glue0 (Nat.le_trans hk.size hb), fun h => by
    obtain ⟨h1, h2, _⟩ := h
    rcases hg with hg | hg
    · omega
    · rw [glue0 hg] at h2; omega⟩
/-- What is marked lies in a range. -/
theorem SM.upto {lo hi b : Nat} {τ : Nat → Nat} (h : SM lo τ b) (ht : ∀ b, hi ≤ b → τ b = 0) : RG2 lo hi b := by
  obtain ⟨h1, h2, _⟩ := h
  refine ⟨h1, ?_⟩
  rcases Nat.lt_or_ge b hi with h | h
  · exact h
  · rw [ht b h] at h2; omega

theorem exMktDo_c (aL : Option Addr) (aLc aLn : Nat) (aP : Option Addr) (aPc aPn : Nat) (aD : Option Addr) (aDc aDn : Nat) (aN : Option Addr) (aNc aNn : Nat) (aS : Option Addr) (aSc aSn : Nat) (m : Sw.Mkt) (rq : Sw.Req) (w : World) (hx : RM w 0 aL aLc aLn aP aPc aPn aD aDc aDn aN aNc aNn aS aSc aSn m) : Calls Try.prog 8 #[.agg #[.slice aL aLn aLc, .slice aP aPn aPc, .slice aD aDn aDc, .int .i64 m.clock, .slice aN aNn aNc, .slice aS aSn aSc], .agg #[.int .i64 rq.user, .int .i64 rq.n, .int .i64 rq.kind, .int .i64 rq.ticket, .int .i64 rq.who, .int .i64 rq.price]] w fun E w' => E = .returned (.bool true) ∧ Ex w w' := by
  by_cases hn : aLn + aPn + aDn + aNn + aSn ≤ 1048576
  case neg =>
    go_enter Try.func8, Try.ntmps8
    go_wp2_with (first | (go_at_call 48; apply Calls.mono; apply szMkt_n; ((first | (apply RM.at0; assumption) | (apply OwM.rm0; assumption)); exact kf_); (first | assumption | omega); (first | assumption | omega); (first | assumption | omega); rintro E w1 ⟨rfl, hb⟩; have hst := xr hb; (try simp only [zA, zC, zD, zN] at hst); obtain ⟨hc, hf, hz⟩ := hst))
    go_ret
    exact ⟨rfl, ext_⟩
  have HN := Lib.hid hn
  have hlen := hx.len
  have HL := Lib.hid hlen
  have hv : decide ((1048576 : Int) - ((aLn : Int) + aPn + aDn + aNn + aSn) < 0) = false := by simp; omega
  obtain ⟨z, hz⟩ : ∃ z, z = Sw.mktDo m rq := ⟨_, rfl⟩
  have hzl := mktDo_len m rq
  rw [← hz] at hzl
  have HZL := Lib.hid hzl
  have HZ := Lib.hid hz
  have hzz : (z.2 != z.2) = false := by simp
  have hzz2 : (z.2 == z.2) = true := by simp
  clear hn hlen hzl hz
  obtain ⟨ru, rn, rk, rt, rh, rp⟩ := rq
  dsimp only
  go_enter Try.func8, Try.ntmps8
  go_upto_region 5 with (go_at_call 48; apply Calls.mono; apply szMkt_y; (apply RM.at0 hx; (exact kf_)); omega; (have := HN.out; omega); rintro E w1 ⟨rfl, hb⟩; have hst := xr hb; (try simp only [zA, zC, zD, zN] at hst); obtain ⟨hc, hf, hz⟩ := hst)
  go_cut [6, 7] (fun p q wx => ∃ (g lo : Nat) (eL : Option Addr) (eLc eLn : Nat) (eP : Option Addr) (ePc ePn : Nat) (eD : Option Addr) (eDc eDn : Nat) (eN : Option Addr) (eNc eNn : Nat) (eS : Option Addr) (eSc eSn : Nat) (τ : Nat → Nat), p = .pointer (some ⟨g, 0, none⟩) ∧ q = .int .i64 z.2 ∧ Ex w1 wx ∧ Boxed w1.heap.size wx g lo eL eLc eLn eP ePc ePn eD eDc eDn eN eNc eNn eS eSc eSn z.1 τ)
  case first =>
    (refine wp_name ?_; intro W0 hb0; have hst := xr hb0; (try simp only [zA, zC, zD, zN] at hst); obtain ⟨hc0, hf0, hz0⟩ := hst; go_region_held3 (fun w' => Held W0 w') ((first | with_reducible assumption | with_reducible exact Held.start _ | with_reducible exact Held.of (by assumption) | with_reducible exact Held.ex (by assumption) (by assumption) | ((repeat (first | with_reducible refine Held.set ?_ (by simp only [zA, zC, zD, zN]; omega) | with_reducible refine Held.alloc ?_ _ | with_reducible refine Held.drew ?_)); (first | with_reducible assumption | with_reducible exact Held.refl _ | with_reducible exact Held.of (by assumption) | with_reducible exact Held.ex (by assumption) (by assumption))) | exact Held.of (by exact ext_))) ((first | (go_at_call 50; apply Calls.mono; apply toMktHouse_c; (apply RM.at0 hx; (exact kf_)); (have := HN.out; omega); rintro E w2 ⟨bL, bLc, bLn, bP, bPc, bPn, bD, bDc, bDn, bN, bNc, bNn, bS, bSc, bSn, τb, rfl, hob, hb⟩; have hlb := hob.rm.len; have hst := xr hb; (try simp only [zA, zC, zD, zN] at hst); obtain ⟨hc, hf, hz⟩ := hst) | (go_at_call 51; apply Calls.mono; apply (toMktReq_c ⟨ru, rn, rk, rt, rh, rp⟩); rintro E w3 ⟨rfl, hb⟩; have hst := xr hb; (try simp only [zA, zC, zD, zN] at hst); obtain ⟨hc, hf, hz⟩ := hst) | (go_at_call 49; apply Calls.mono; apply (sMktDo_c (m := m) (r := ⟨ru, rn, rk, rt, rh, rp⟩)); (apply OwM.rm0 hob; (exact kf_)); (have := HN.out; have := HL.out; omega); rintro E w4 ⟨eL, eLc, eLn, eP, ePc, ePn, eD, eDc, eDn, eN, eNc, eNn, eS, eSc, eSn, τe, rfl, hoe, hb⟩; rw [← HZ.out] at hoe; rw [← HZ.out]; have hst := xr hb; (try simp only [zA, zC, zD, zN] at hst); obtain ⟨hc, hf, hz⟩ := hst))); all_goals (have hb := And.right (by assumption : Held W0 _); have hst := xr hb; (try simp only [zA, zC, zD, zN] at hst); obtain ⟨hc, hf, hz⟩ := hst))
    all_goals go_wp2_with fail
    all_goals go_meet
    all_goals refine ⟨_, _, _, _, _, _, _, _, _, _, _, _, _, _, _, _, _, _, rfl, rfl, ext_, Boxed.mk1 hoe kf_ ⟨sz_, ?_, ?_, ?_, ?_, ?_, ?_, fun i => ?_⟩ sz_ sz_ (by first | exact .inl sz_ | exact .inr sz_)⟩
    all_goals (first | (go_simp; done) | (simp [go_sem, *]; done))
  case rest =>
    obtain ⟨gC, loC, eL, eLc, eLn, eP, ePc, ePn, eD, eDc, eDn, eN, eNc, eNn, eS, eSc, eSn, τe, rfl, rfl, hbc, ⟨hAe, hoe, hgC, hloC, hze, hSe⟩⟩ := hcut
    have hst := xr hbc
    (try simp only [zA, zC, zD, zN] at hst)
    obtain ⟨hcc, hfc, hzc⟩ := hst
    obtain ⟨e0, e1, e2, e3, e4, e5, e6, ef⟩ := hAe
    simp only [Nat.zero_add] at e1 e2 e3 e4 e5 e6
    have hle := Lib.hid hoe.rm.len
    go_upto_region 7 with (go_at_call 50; apply Calls.mono; apply toMktHouse_c; (apply RM.at0 hx; (exact kf_)); (have := HN.out; omega); rintro E w5 ⟨dL, dLc, dLn, dP, dPc, dPn, dD, dDc, dDn, dN, dNc, dNn, dS, dSc, dSn, τd, rfl, hod, hb⟩; have hbd := hb; have hst := xr hb; (try simp only [zA, zC, zD, zN] at hst); obtain ⟨hc, hf, hz⟩ := hst)
    have hld := Lib.hid hod.rm.len
    replace hod := hod.ranged (kR _ _)
    go_cut [9, 10] (fun p q wx => ∃ (g lo : Nat) (fL : Option Addr) (fLc fLn : Nat) (fP : Option Addr) (fPc fPn : Nat) (fD : Option Addr) (fDc fDn : Nat) (fN : Option Addr) (fNc fNn : Nat) (fS : Option Addr) (fSc fSn : Nat) (τ : Nat → Nat), p = .pointer (some ⟨g, 0, none⟩) ∧ q = .int .i64 z.2 ∧ Ex (w5.alloc (.cells #[.slice dL dLn dLc, .slice dP dPn dPc, .slice dD dDn dDc, .int .i64 m.clock, .slice dN dNn dNc, .slice dS dSn dSc] 53)) wx ∧ Boxed (w5.heap.size + 1) wx g lo fL fLc fLn fP fPc fPn fD fDc fDn fN fNc fNn fS fSc fSn z.1 τ)
    case first =>
      (refine wp_name ?_; intro W0 hb0; have hst := xr hb0; (try simp only [zA, zC, zD, zN] at hst); obtain ⟨hc0, hf0, hz0⟩ := hst; go_region_held3 (fun w' => Held W0 w') ((first | with_reducible assumption | with_reducible exact Held.start _ | with_reducible exact Held.of (by assumption) | with_reducible exact Held.ex (by assumption) (by assumption) | ((repeat (first | with_reducible refine Held.set ?_ (by simp only [zA, zC, zD, zN]; omega) | with_reducible refine Held.alloc ?_ _ | with_reducible refine Held.drew ?_)); (first | with_reducible assumption | with_reducible exact Held.refl _ | with_reducible exact Held.of (by assumption) | with_reducible exact Held.ex (by assumption) (by assumption))) | exact Held.of (by exact ext_))) ((first | (go_at_call 51; apply Calls.mono; apply (toMktReq_c ⟨ru, rn, rk, rt, rh, rp⟩); rintro E w3 ⟨rfl, hb⟩; have hst := xr hb; (try simp only [zA, zC, zD, zN] at hst); obtain ⟨hc, hf, hz⟩ := hst) | (go_at_call 52; apply Calls.mono; apply (iMktDo_c (m := m) (r := ⟨ru, rn, rk, rt, rh, rp⟩)); (apply OwM.rm0 hod; (exact kf_)); (have := HN.out; have := HL.out; have := hld.out; omega); rintro E w4 ⟨fL, fLc, fLn, fP, fPc, fPn, fD, fDc, fDn, fN, fNc, fNn, fS, fSc, fSn, τf, rfl, hof, hb⟩; rw [← HZ.out] at hof; rw [← HZ.out]; have hst := xr hb; (try simp only [zA, zC, zD, zN] at hst); obtain ⟨hc, hf, hz⟩ := hst))); all_goals (have hb := And.right (by assumption : Held W0 _); have hst := xr hb; (try simp only [zA, zC, zD, zN] at hst); obtain ⟨hc, hf, hz⟩ := hst))
      all_goals go_wp2_with fail
      all_goals go_meet
      all_goals refine ⟨_, _, _, _, _, _, _, _, _, _, _, _, _, _, _, _, _, _, rfl, rfl, ext_, Boxed.mk1 hof kf_ ⟨sz_, ?_, ?_, ?_, ?_, ?_, ?_, fun i => ?_⟩ sz_ sz_ (by first | exact .inl sz_ | exact .inr sz_)⟩
      all_goals (first | (go_simp; done) | (simp [go_sem, *]; done))
    case rest =>
      obtain ⟨gF, loF, fL, fLc, fLn, fP, fPc, fPn, fD, fDc, fDn, fN, fNc, fNn, fS, fSc, fSn, τf, rfl, rfl, hbf, ⟨hAf, hof, hgF, hloF, hzf, hSf⟩⟩ := hcut
      obtain ⟨wF, hwF⟩ : ∃ wF, wF = wc := ⟨_, rfl⟩
      have hst := xr hbf
      (try simp only [zA, zC, zD, zN] at hst)
      obtain ⟨hcF, hfF, hzF⟩ := hst
      obtain ⟨f0, f1, f2, f3, f4, f5, f6, ff⟩ := hAf
      simp only [Nat.zero_add] at f1 f2 f3 f4 f5 f6
      have hlf := Lib.hid hof.rm.len
      go_wp2_with fail
      apply Calls.mono
      apply (eqMktHouse_c (x := z.1) (y := z.1))
      · apply OwM.rm0 hof; (exact kf_)
      · apply OwM.rm0 hoe; (exact kf_)
      rintro E w6 ⟨rfl, hb⟩
      rw [show decide (z.1 = z.1) = true from decide_eq_true rfl]
      have hst := xr hb; (try simp only [zA, zC, zD, zN] at hst); obtain ⟨hc, hf, hz⟩ := hst
      go_wp2_with fail
      (refine wp_name ?_; intro W0 hb0; have hst := xr hb0; (try simp only [zA, zC, zD, zN] at hst); obtain ⟨hc0, hf0, hz0⟩ := hst; go_region_held3 (fun w' => Held W0 w') ((first | with_reducible assumption | with_reducible exact Held.start _ | with_reducible exact Held.of (by assumption) | with_reducible exact Held.ex (by assumption) (by assumption) | ((repeat (first | with_reducible refine Held.set ?_ (by simp only [zA, zC, zD, zN]; omega) | with_reducible refine Held.alloc ?_ _ | with_reducible refine Held.drew ?_)); (first | with_reducible assumption | with_reducible exact Held.refl _ | with_reducible exact Held.of (by assumption) | with_reducible exact Held.ex (by assumption) (by assumption))) | exact Held.of (by exact ext_))) ((first | (go_at_call 50; apply Calls.mono; apply toMktHouse_c; (apply RM.at0 hx; (exact kf_)); (have := HN.out; omega); rintro E wf ⟨iL, iLc, iLn, iP, iPc, iPn, iD, iDc, iDn, iN, iNc, iNn, iS, iSc, iSn, τi, rfl, hoi, hb⟩; have hst := xr hb; (try simp only [zA, zC, zD, zN] at hst); obtain ⟨hc, hf, hz⟩ := hst) | (go_at_call 53; apply Calls.mono; apply (eqMktHouse_c (x := m) (y := m)); (apply OwM.rm0 hod; (exact kf_)); (apply OwM.rm0 hoi; (exact kf_)); rintro E wg ⟨rfl, hb⟩; rw [show decide (m = m) = true from decide_eq_true rfl]; have hst := xr hb; (try simp only [zA, zC, zD, zN] at hst); obtain ⟨hc, hf, hz⟩ := hst))); all_goals (have hb := And.right (by assumption : Held W0 _); have hst := xr hb; (try simp only [zA, zC, zD, zN] at hst); obtain ⟨hc, hf, hz⟩ := hst))
      go_wp2_with fail
      have hx0 := hx
      have hoe0 := hoe
      have hof0 := hof
      have kd1 : decide ((1 : Int) + (dLn : Int) * 4 + dPn + (dDn : Int) * 5 + dNn + dSn < 0) = false := by simp; omega
      have kf1 : decide ((1 : Int) + (fLn : Int) * 4 + fPn + (fDn : Int) * 5 + fNn + fSn < 0) = false := by simp; omega
      apply Calls.mono
      apply (markMkt_c (m := m) (τ := glue τd w5.heap.size (fun _ => 0)))
      · exact hod.keepF (by (exact kf_))
      · decide
      · decide
      · have := hld.out; have := HN.out; have := HL.out; omega
      rintro E w7 ⟨rfl, -, hmk⟩
      have hr := hmk.mono (fun i _ h => SM.range h)
      have bx70 := RG2.rules hr (g := w.heap.size) (.inl (by exact sz_)) (by exact sz_)
      have bx71 := RG2.rules hr (g := w.heap.size + 1) (.inl (by exact sz_)) (by exact sz_)
      have bx72 := RG2.rules hr (g := gC) (.inl (by exact sz_)) (by exact sz_)
      have bx73 := RG2.rules hr (g := gF) (.inr (by exact sz_)) (by exact sz_)
      obtain ⟨hoe, kkew7⟩ := OwM.keepR hoe0 (by (exact kf_)) hr (.inr (by exact sz_))
      obtain ⟨hof, kkfw7⟩ := OwM.keepR hof0 (by (exact kf_)) hr (.inl (by exact sz_))
      have hexw7 : Ex w w7 := Ch.trans' (show Ex w _ from ext_) hr (fun i hi h => absurd h.1 (by (first | omega | (simp only [zA, zC, zD, zN] at *; omega) | (simp only [zA, zC, zD, zN]; omega))))
      have hx := hx0.at0 (kE hexw7 (kR _ _))
      have hszw7 := hr.size
      (try simp only [zA, zC, zD] at hszw7)
      clear hr hmk
      go_wp2_with fail
      apply Calls.mono
      apply (eqMktHouse_c (x := z.1) (y := z.1))
      · apply OwM.rm0 hof; (exact kf_)
      · apply OwM.rm0 hoe; (exact kf_)
      rintro E w8 ⟨rfl, hb⟩
      rw [show decide (z.1 = z.1) = true from decide_eq_true rfl]
      have hst := xr hb; (try simp only [zA, zC, zD, zN] at hst); obtain ⟨hc, hf, hz⟩ := hst
      go_wp2_with fail
      apply Calls.mono
      apply (markMkt_c (m := z.1) (τ := τf))
      · exact hof.keepF (by (exact kf_))
      · decide
      · decide
      · have := hlf.out; have := HZL.out; omega
      rintro E w9 ⟨rfl, hmM, hmk⟩
      have bx93 := fun i : Nat => hmk.cell (p := ⟨gF, i, none⟩) (by exact sz_) hSf
      have hr := hmk.mono (fun i _ h => SM.upto h hzf)
      have bx90 := RG2.rules hr (g := w.heap.size) (.inl (by exact sz_)) (by exact sz_)
      have bx91 := RG2.rules hr (g := w.heap.size + 1) (.inl (by exact sz_)) (by exact sz_)
      have bx92 := RG2.rules hr (g := gC) (.inl (by exact sz_)) (by exact sz_)
      obtain ⟨hoe, kkew9⟩ := OwM.keepR hoe0 (kkew7.trans (by (exact kf_))) hr (.inr (by exact sz_))
      have hexw9 : Ex w w9 := Ch.trans' (show Ex w _ from ext_) hr (fun i hi h => absurd h.1 (by (first | omega | (simp only [zA, zC, zD, zN] at *; omega) | (simp only [zA, zC, zD, zN]; omega))))
      have hx := hx0.at0 (kE hexw9 (kR _ _))
      have hszw9 := hr.size
      (try simp only [zA, zC, zD] at hszw9)
      clear hr hmk
      go_wp2_with fail
      apply Calls.mono
      apply heldMkt_c
      · exact hmM.keep (by (exact kf_))
      · decide
      · decide
      · have := hlf.out; have := HZL.out; omega
      rintro E w10 ⟨rfl, hb⟩
      have hst := xr hb; (try simp only [zA, zC, zD, zN] at hst); obtain ⟨hc, hf, hz⟩ := hst
      go_upto_region 24 with fail
      go_cut [14, 15] (fun p q wx => ∃ (g lo : Nat) (iL : Option Addr) (iLc iLn : Nat) (iP : Option Addr) (iPc iPn : Nat) (iD : Option Addr) (iDc iDn : Nat) (iN : Option Addr) (iNc iNn : Nat) (iS : Option Addr) (iSc iSn : Nat) (τ : Nat → Nat), p = .pointer (some ⟨g, 0, none⟩) ∧ q = .int .i64 z.2 ∧ Ex w10 wx ∧ Boxed w10.heap.size wx g lo iL iLc iLn iP iPc iPn iD iDc iDn iN iNc iNn iS iSc iSn z.1 τ)
      case first =>
        (refine wp_name ?_; intro W0 hb0; have hst := xr hb0; (try simp only [zA, zC, zD, zN] at hst); obtain ⟨hc0, hf0, hz0⟩ := hst; go_region_held3 (fun w' => Held W0 w') ((first | with_reducible assumption | with_reducible exact Held.start _ | with_reducible exact Held.of (by assumption) | with_reducible exact Held.ex (by assumption) (by assumption) | ((repeat (first | with_reducible refine Held.set ?_ (by simp only [zA, zC, zD, zN]; omega) | with_reducible refine Held.alloc ?_ _ | with_reducible refine Held.drew ?_)); (first | with_reducible assumption | with_reducible exact Held.refl _ | with_reducible exact Held.of (by assumption) | with_reducible exact Held.ex (by assumption) (by assumption))) | exact Held.of (by exact ext_))) ((first | (go_at_call 50; apply Calls.mono; apply toMktHouse_c; (apply RM.at0 hx; (exact kf_)); (have := HN.out; omega); rintro E w2 ⟨bL, bLc, bLn, bP, bPc, bPn, bD, bDc, bDn, bN, bNc, bNn, bS, bSc, bSn, τb, rfl, hob, hb⟩; have hlb := hob.rm.len; have hst := xr hb; (try simp only [zA, zC, zD, zN] at hst); obtain ⟨hc, hf, hz⟩ := hst) | (go_at_call 51; apply Calls.mono; apply (toMktReq_c ⟨ru, rn, rk, rt, rh, rp⟩); rintro E w3 ⟨rfl, hb⟩; have hst := xr hb; (try simp only [zA, zC, zD, zN] at hst); obtain ⟨hc, hf, hz⟩ := hst) | (go_at_call 52; apply Calls.mono; apply (iMktDo_c (m := m) (r := ⟨ru, rn, rk, rt, rh, rp⟩)); (apply OwM.rm0 hob; (exact kf_)); (have := HN.out; have := HL.out; omega); rintro E w4 ⟨iL, iLc, iLn, iP, iPc, iPn, iD, iDc, iDn, iN, iNc, iNn, iS, iSc, iSn, τi, rfl, hoi, hb⟩; rw [← HZ.out] at hoi; rw [← HZ.out]; have hst := xr hb; (try simp only [zA, zC, zD, zN] at hst); obtain ⟨hc, hf, hz⟩ := hst))); all_goals (have hb := And.right (by assumption : Held W0 _); have hst := xr hb; (try simp only [zA, zC, zD, zN] at hst); obtain ⟨hc, hf, hz⟩ := hst))
        all_goals go_wp2_with fail
        all_goals go_meet
        all_goals refine ⟨_, _, _, _, _, _, _, _, _, _, _, _, _, _, _, _, _, _, rfl, rfl, ext_, Boxed.mk1 hoi kf_ ⟨sz_, ?_, ?_, ?_, ?_, ?_, ?_, fun i => ?_⟩ sz_ sz_ (by first | exact .inl sz_ | exact .inr sz_)⟩
        all_goals (first | (go_simp; done) | (simp [go_sem, *]; done))
      case rest =>
        obtain ⟨gI, loI, iL, iLc, iLn, iP, iPc, iPn, iD, iDc, iDn, iN, iNc, iNn, iS, iSc, iSn, τi, rfl, rfl, hbi, ⟨hAi, hoi, hgI, hloI, hzi, hSi⟩⟩ := hcut
        have hst := xr hbi
        (try simp only [zA, zC, zD, zN] at hst)
        obtain ⟨hcI, hfI, hzI⟩ := hst
        obtain ⟨q0, q1, q2, q3, q4, q5, q6, qf⟩ := hAi
        simp only [Nat.zero_add] at q1 q2 q3 q4 q5 q6
        go_wp2_with fail
        apply Calls.mono
        apply (eqMktHouse_c (x := z.1) (y := z.1))
        · apply OwM.rm0 hoi; (exact kf_)
        · apply OwM.rm0 hoe; (exact kf_)
        rintro E w13 ⟨rfl, hb⟩
        rw [show decide (z.1 = z.1) = true from decide_eq_true rfl]
        have hst := xr hb; (try simp only [zA, zC, zD, zN] at hst); obtain ⟨hc, hf, hz⟩ := hst
        go_wp2_with fail
        apply Calls.mono
        apply heldMkt_c
        · exact hmM.keep (by (exact kf_))
        · decide
        · decide
        · have := hlf.out; have := HZL.out; omega
        rintro E w14 ⟨rfl, hb⟩
        have hst := xr hb; (try simp only [zA, zC, zD, zN] at hst); obtain ⟨hc, hf, hz⟩ := hst
        go_wp2_with fail
        go_ret
        exact ⟨rfl, ext_⟩
end Go.Proofs.Ytgceeggfdomdjaa

namespace Go.Proofs.Ytgceeggfdomdjaa
set_option maxRecDepth 100000
set_option linter.unusedSimpArgs false
set_option linter.unusedVariables false
open Go.ChangeShapes Go.WideShapes Go.ChangeAt Go.RowKit Go

section
variable {H : Type} {enc : TypeId × Value → H} {P : Program}
theorem trodAll_stays (hl : laidOutB P = true) {W W' : World} {sp : Nat → Bool} (hb : Below W.heap.size W W') : ∀ {ts : List TypeId} {vs : List Value} {ds : List (DataW H)} {ps : List MemPlace},
    ts.all (fun t => P.readableRec t && decide (t < P.types.size)) = true → DataW.TrodAll enc P W 0 (fun _ => true) true ts vs ds ps → (∀ x ∈ ps, x.block < W.heap.size) → (∀ x ∈ ps, sp x.block = true) →
    DataW.TrodAll enc P W' 0 sp true ts vs ds ps
  | [], [], [], _, _, h, _, _ => h
  | t :: ts, v :: vs, d :: ds, _, hr, ⟨p, q, h1, h2, e⟩, hlt, hs => by
    simp only [List.all_cons, Bool.and_eq_true, decide_eq_true_eq] at hr
    subst e
    refine ⟨p, q, ?_, trodAll_stays hl hb hr.2 h2 (fun x hx => hlt x (List.mem_append_right _ hx)) (fun x hx => hs x (List.mem_append_right _ hx)), rfl⟩
    exact WideElems.Trod_stays hl hr.1.1 hr.1.2 h1 (fun x hx => hb.same (hlt x (List.mem_append_left _ hx))) (fun x hx => hs x (List.mem_append_left _ hx))

/-- A call that returns true and turns nothing that was there is what a law's statement asks. -/
theorem law_post {f : Func} {s : ChangeSpec} {apart fresh handsOn again : Bool} {W W' : World} {args : Array Value} {ds gs : List (DataW H)} {before : List MemPlace} {tb : TypeId}
    (hl : laidOutB P = true) (hr : f.params.toList.all (fun t => P.readableRec t && decide (t < P.types.size)) = true) (hres : f.resultTypes = #[tb]) (htb : P.underlying tb = some .bool) (hv : s.vars = [])
    (hfn : (s.fn H ds).results = [.lit (.bool true)] ∧ (s.fn H ds).args = ds ∧ (s.fn H ds).vars = [])
    (hW : DataW.Whole enc P f.params.toList s.vars apart W args.toList ds gs before) (hb : Ex W W') : s.post enc P f apart fresh handsOn again W args (.bool true) W' := by
  have hW0 := hW
  have hbl := hb.below
  have hlt : ∀ p ∈ before, p.block < W.heap.size := fun p hp => by simpa using hW.lt p hp
  obtain ⟨p, q, hA, hV, he, hz, hn⟩ := hW
  rw [hv] at hV
  obtain ⟨rfl, rfl⟩ := trodVars_none hV
  rw [List.append_nil] at he
  subst he
  obtain ⟨f1, f2, f3⟩ := hfn
  have hargs : ∀ sp : Nat → Bool, (∀ x ∈ before, sp x.block = true) → DataW.TrodAll enc P W' 0 sp true f.params.toList args.toList (s.fn H (ds ++ [])).args before := fun sp hs => by
    rw [List.append_nil, f2]
    exact trodAll_stays hl hbl hr hA hlt hs
  have hvars : ∀ sp : Nat → Bool, DataW.TrodVars enc P W' sp s.vars (s.fn H (ds ++ [])).vars [] := fun sp => by
    rw [List.append_nil, f3, hv]
    rfl
  have hresu : ∀ (b : Nat) (sp : Nat → Bool) (hd : Bool), DataW.TrodAll enc P W' b sp hd f.resultTypes.toList ((Value.bool true).resultList f.resultTypes.size) (s.fn H (ds ++ [])).results [] := fun b sp hd => by
    rw [List.append_nil, f1, hres]
    exact trodAll_cons_mk (shut_bool htb _) trodAll_mk0
  have hold : ∀ p ∈ before, (fun b => decide (b < W.heap.size)) p.block = true := fun p hp => by simpa using hlt p hp
  refine ⟨ds, [], before, [], before, [], hW0, hresu _ _ _, hargs _ hold, hvars _, World.keptBut_mono (fun p hp => ⟨hp, Or.inr (by simpa using hp)⟩) (hbl.frame _), fun _ => ?_⟩
  refine ⟨ok_one (by rw [hres]) rfl (okWide_bool_mk htb _), _, _, ([] ++ before) ++ [], ⟨[] ++ before, [], trodAll_append (hargs _ (fun _ _ => rfl)) (hresu _ _ _), hvars _, rfl, ?_, ?_⟩, ?_⟩
  · intro b off hp
    have hp' : MemPlace.cell b off ∈ before := by simpa using hp
    rw [hbl.frozen (by exact hlt _ hp')]
    exact hz b off (by simpa using hp)
  · intro ha
    have := hn ha
    simpa using this
  · intro p hp _
    simpa using hp

theorem spot_of_cell {W : World} {a : Addr} {v : Value} (h : W.cell? a = some v) : a.spot = none ∧ a.block < W.heap.size := by
  unfold World.cell? at h
  split at h
  · rename_i c T fz hh
    refine ⟨?_, (Array.getElem?_eq_some_iff.1 hh).1⟩
    cases hs : a.spot with
    | none => rfl
    | some _ => rw [hs] at h; simp at h
  · cases h

theorem flat_one {α : Type} {f : α → Value} (xs : List α) : xs.flatMap (fun x => [f x]) = xs.map f := by
  induction xs with
  | nil => rfl
  | cons x xs ih => rw [List.flatMap_cons, ih]; rfl

/-- A slice of numbers that reads is one that may be read. -/
theorem ri_of_trod {W : World} {t e : TypeId} {fuel : Nat} {cs : List Value} {x : DataW H × List MemPlace} (ht : P.underlying t = some (.slice e)) (he : P.underlying e = some (.int .i64)) (hc : P.cellsOf e = 1)
    (h : DataW.trod enc P W 0 (fun _ => true) true fuel t cs = some x) : ∃ A c n xs, cs = [.slice A n c] ∧ RI W 0 A c n xs := by
  rcases open_ints ht he hc h with ⟨rfl, _⟩ | ⟨a, len, cap, zs, rfl, _, hl, hm, hz, _, hcell, _⟩
  · exact ⟨none, 0, 0, [], rfl, rfl, Rd.none_ _ _ _⟩
  · have hz' : zs.length = cap := by simpa using hz
    refine ⟨some a, cap, len, zs.take len, rfl, by rw [List.length_take]; omega, ⟨?_, hl, hm, (fun h => by cases h), fun b hb hn => ?_⟩⟩
    · show ((zs.take len).flatMap fun x => [Value.int .i64 x]).length = len * 1
      rw [flat_one, List.length_map, List.length_take]; omega
    · obtain rfl := Option.some.inj hb
      have h0 := spot_of_cell (hcell 0 (by omega))
      refine ⟨?_, Nat.zero_le _, ?_, fun j u hu => ?_⟩
      · have := h0.1
        simp only [Addr.add] at this
        split at this <;> first | exact this | contradiction | omega
      · have := h0.2
        simp only [Addr.add] at this
        split at this <;> first | exact this | contradiction | omega
      replace hu : ((zs.take len).flatMap fun x => [Value.int .i64 x])[j]? = some u := hu
      rw [flat_one, List.getElem?_map, Option.map_eq_some_iff] at hu
      obtain ⟨y, hy, rfl⟩ := hu
      rw [List.getElem?_take] at hy
      split at hy
      · have hj := (List.getElem?_eq_some_iff.1 hy).1
        have := hcell j hj
        rw [List.getD_eq_getElem?_getD, hy] at this
        obtain ⟨g, off, spot⟩ := a
        have hs : spot = none := by
          have := h0.1
          simp only [Addr.add] at this
          split at this <;> first | exact this | contradiction | omega
        subst hs
        rw [Addr.add_lit] at this
        exact this
      · cases hy

/-- A head that reads is three numbers. -/
theorem head_of_trod {W : World} {t ti : TypeId} {f0 f1 f2 : Field} {fuel : Nat} {cs : List Value} {x : DataW H × List MemPlace} (ht : P.underlying t = some (.struct #[f0, f1, f2])) (hi : P.underlying ti = some (.int .i64)) (hci : P.cellsOf ti = 1) (hct : P.cellsOf t = 3)
    (e0 : f0.type = ti ∧ f0.offset = 0) (e1 : f1.type = ti ∧ f1.offset = 1) (e2 : f2.type = ti ∧ f2.offset = 2)
    (h : DataW.trod enc P W 0 (fun _ => true) true fuel t cs = some x) : ∃ a b c : Int, cs = [.int .i64 a, .int .i64 b, .int .i64 c] := by
  obtain ⟨xs, n, _, _, hl, hxl, hf⟩ := DataW.trod_struct ht h
  rw [hct] at hl
  have key : ∀ (i : Nat) (f : Field), #[f0, f1, f2][i]? = some f → f.type = ti → ∃ a : Int, (cs.drop f.offset).take 1 = [.int .i64 a] := by
    intro i f hfi hft
    have h1 := hf i f hfi
    have hx : i < xs.length := by
      have := (Array.getElem?_eq_some_iff.1 hfi).1
      rw [hxl]; exact this
    rw [hft, hci, List.getElem?_eq_getElem hx] at h1
    obtain ⟨a, ha, _⟩ := DataW.trod_int hi h1
    exact ⟨a, ha⟩
  match cs, hl with
  | [c0, c1, c2], _ =>
    obtain ⟨a, ha⟩ := key 0 f0 rfl e0.1
    obtain ⟨b, hb⟩ := key 1 f1 rfl e1.1
    obtain ⟨c, hc⟩ := key 2 f2 rfl e2.1
    rw [e0.2] at ha
    rw [e1.2] at hb
    rw [e2.2] at hc
    simp at ha hb hc
    exact ⟨a, b, c, by rw [ha, hb, hc]⟩

/-- A gate that reads is a head and a slice of numbers. -/
theorem gate_of_trod {W : World} {t th ts ti : TypeId} {f0 f1 h0 h1 h2 : Field} {fuel : Nat} {cs : List Value} {x : DataW H × List MemPlace} (ht : P.underlying t = some (.struct #[f0, f1])) (hth : P.underlying th = some (.struct #[h0, h1, h2])) (hts : P.underlying ts = some (.slice ti)) (hi : P.underlying ti = some (.int .i64))
    (hci : P.cellsOf ti = 1) (hch : P.cellsOf th = 3) (hcs : P.cellsOf ts = 1) (hct : P.cellsOf t = 4)
    (e0 : f0.type = th ∧ f0.offset = 0) (e1 : f1.type = ts ∧ f1.offset = 3) (g0 : h0.type = ti ∧ h0.offset = 0) (g1 : h1.type = ti ∧ h1.offset = 1) (g2 : h2.type = ti ∧ h2.offset = 2)
    (h : DataW.trod enc P W 0 (fun _ => true) true fuel t cs = some x) : ∃ (a b c : Int) (A : Option Addr) (d n : Nat) (zs : List Int), cs = [.int .i64 a, .int .i64 b, .int .i64 c, .slice A n d] ∧ RI W 0 A d n zs := by
  obtain ⟨xs, n, _, _, hl, hxl, hf⟩ := DataW.trod_struct ht h
  rw [hct] at hl
  have k0 := hf 0 f0 rfl
  have k1 := hf 1 f1 rfl
  rw [e0.1, e0.2, hch, List.getElem?_eq_getElem (by rw [hxl]; exact Nat.zero_lt_succ _)] at k0
  rw [e1.1, e1.2, hcs, List.getElem?_eq_getElem (by rw [hxl]; exact Nat.one_lt_two)] at k1
  obtain ⟨a, b, c, q0⟩ := head_of_trod hth hi hci hch g0 g1 g2 k0
  obtain ⟨A, d, m, zs, q1, hr⟩ := ri_of_trod hts hi hci k1
  match cs, hl with
  | [c0, c1, c2, c3], _ =>
    simp at q0 q1
    obtain ⟨rfl, rfl, rfl⟩ := q0
    exact ⟨_, _, _, A, d, m, zs, by rw [q1], hr⟩

theorem slice_form {W : World} {base : Nat} {t e : TypeId} {v : Value} {A : Option Addr} {n c : Nat} (ht : P.underlying t = some (.slice e)) (hv : Value.okWide P W .any base t v) (h : v.cells.toList = [.slice A n c]) : v = .slice A n c := by
  unfold Value.okWide at hv
  rw [ht] at hv
  unfold Cell.okWide Cell.ok at hv
  rw [ht] at hv
  cases v <;> simp_all [Value.cells]
end
end Go.Proofs.Ytgceeggfdomdjaa

namespace Go.Proofs.Ytgceeggfdomdjaa
set_option maxRecDepth 100000
set_option linter.unusedSimpArgs false
set_option linter.unusedVariables false
open Go.ChangeShapes Go.WideShapes Go.ChangeAt Go.RowKit Go

section
variable {H : Type} {enc : TypeId × Value → H} {P : Program} {W : World}
theorem add_spot {a : Addr} (h : a.spot = none) (i : Nat) : a.add i = ⟨a.block, a.off + i, none⟩ := by
  obtain ⟨b, o, s⟩ := a
  dsimp only at h
  subst h
  exact Addr.add_lit _ _ _
/-- A slice whose elements read as things of α. -/
theorem rs_of_trod {α : Type} {ec : α → List Value} {sz : Nat} {t e : TypeId} {fuel : Nat} {cs : List Value} {x : DataW H × List MemPlace} (ht : P.underlying t = some (.slice e)) (hc : P.cellsOf e = sz) (hp : 0 < sz) (hsz : ∀ y, (ec y).length = sz)
    {Q : α → Prop} (he : ∀ n cs y, DataW.trod enc P W 0 (fun _ => true) true n e cs = some y → ∃ z : α, cs = ec z ∧ Q z) (h : DataW.trod enc P W 0 (fun _ => true) true fuel t cs = some x) :
    ∃ A c n xs, cs = [.slice A n c] ∧ Rs ec sz W 0 A c n xs ∧ ∀ y ∈ xs, Q y := by
  rcases Go.Deep.open_slice ht h with ⟨rfl, _⟩ | ⟨a, len, cap, m, n, D, Pl, rfl, _, hl, hm, hmm, hxx, hi⟩
  · exact ⟨none, 0, 0, [], rfl, ⟨rfl, Rd.none_ _ _ _⟩, by simp⟩
  · rw [if_pos rfl] at hmm
    subst hmm
    rw [hc] at hi
    have hi2 : ∀ i, i < len → ∃ z : α, Q z ∧ ∀ j, j < sz → W.cell? ((a.add (i * sz)).add j) = (ec z)[j]? := by
      intro i hil
      obtain ⟨cs', h1, h2⟩ := hi i (by omega)
      obtain ⟨z, rfl, hq⟩ := he _ _ _ h2
      exact ⟨z, hq, (World.cells?_some h1).2.2⟩
    have spot : 0 < len → a.spot = none ∧ a.block < W.heap.size := by
      intro h0
      obtain ⟨z, _, hz⟩ := hi2 0 h0
      have h1 := hz 0 hp
      rw [List.getElem?_eq_getElem (by rw [hsz]; exact hp)] at h1
      have h2 := spot_of_cell h1
      rw [Nat.zero_mul] at h2
      have e0 : ∀ b : Addr, (b.add 0).spot = none → b.spot = none := by
        intro b hb
        simp only [Addr.add] at hb
        split at hb <;> first | exact hb | contradiction | omega
      have e1 : ∀ b : Addr, (b.add 0).block = b.block := by
        intro b
        simp only [Addr.add]
        split <;> rfl
      exact ⟨e0 _ (e0 _ h2.1), by rw [e1, e1] at h2; exact h2.2⟩
    obtain ⟨xs, hlen, hxs⟩ : ∃ xs : List α, xs.length = len ∧ ∀ i z, xs[i]? = some z → Q z ∧ ∀ j, j < sz → W.cell? ((a.add (i * sz)).add j) = (ec z)[j]? := by
      clear hi spot h hl hxx
      induction len with
      | zero => exact ⟨[], rfl, by simp⟩
      | succ k ih =>
        obtain ⟨xs, h1, h2⟩ := ih (fun i hi => hi2 i (by omega))
        obtain ⟨z, hz⟩ := hi2 k (by omega)
        refine ⟨xs ++ [z], by simp [h1], fun i y hy => ?_⟩
        rw [List.getElem?_append] at hy
        split at hy
        · exact h2 i y hy
        · have : i = k := by
            have := (List.getElem?_eq_some_iff.1 hy).1
            simp at this
            omega
          subst this
          rw [h1, Nat.sub_self] at hy
          simp at hy
          subst hy
          exact hz
    refine ⟨some a, m, len, xs, rfl, ⟨hlen.symm, ⟨?_, hl, hm, (fun h => by cases h), fun b hb hn => ?_⟩⟩, fun y hy => ?_⟩
    · have key : ∀ xs : List α, (xs.flatMap ec).length = xs.length * sz := by
        intro xs
        induction xs with
        | nil => simp
        | cons x xs ih => simp only [List.flatMap_cons, List.length_append, hsz, ih, List.length_cons, Nat.succ_mul]; omega
      rw [key, hlen]
    · obtain rfl := Option.some.inj hb
      obtain ⟨s1, s2⟩ := spot hn
      refine ⟨s1, Nat.zero_le _, s2, fun j u hu => ?_⟩
      have key : ∀ xs : List α, (xs.flatMap ec).length = xs.length * sz := by
        intro xs
        induction xs with
        | nil => simp
        | cons x xs ih => simp only [List.flatMap_cons, List.length_append, hsz, ih, List.length_cons, Nat.succ_mul]; omega
      have hj := (List.getElem?_eq_some_iff.1 hu).1
      rw [key] at hj
      have hk : j / sz < xs.length := Nat.div_lt_of_lt_mul (by rw [Nat.mul_comm]; exact hj)
      have hr : j % sz < sz := Nat.mod_lt _ hp
      have hd : j / sz * sz + j % sz = j := by rw [Nat.mul_comm]; exact Nat.div_add_mod _ _
      have h1 := flat_get hsz xs (j / sz) (j % sz) hk hr
      rw [hd, hu] at h1
      have h2 := (hxs (j / sz) _ (List.getElem?_eq_getElem hk)).2 (j % sz) hr
      rw [← h1, add_spot s1, add_spot rfl] at h2
      dsimp only at h2
      rw [Nat.add_assoc, hd] at h2
      exact h2
    · obtain ⟨i, hi⟩ := List.getElem?_of_mem hy
      exact (hxs i y hi).1

def fieldsInt (fs : Array Field) (ti : TypeId) : Bool := (List.range fs.size).all fun i => match fs[i]? with
  | some f => decide (f.type = ti) && decide (f.offset = i)
  | none => false
def valInt : Value → Int
  | .int _ n => n
  | _ => 0
/-- A struct of numbers. -/
theorem ints_of_trod {t ti : TypeId} {fs : Array Field} {fuel : Nat} {cs : List Value} {x : DataW H × List MemPlace} (ht : P.underlying t = some (.struct fs)) (hi : P.underlying ti = some (.int .i64)) (hci : P.cellsOf ti = 1) (hct : P.cellsOf t = fs.size) (hf : fieldsInt fs ti = true)
    (h : DataW.trod enc P W 0 (fun _ => true) true fuel t cs = some x) : ∃ zs : List Int, zs.length = fs.size ∧ cs = zs.map (Value.int .i64) := by
  obtain ⟨xs, n, _, _, hl, hxl, hg⟩ := DataW.trod_struct ht h
  have key : ∀ i, i < fs.size → ∃ a : Int, cs[i]? = some (.int .i64 a) := by
    intro i hi'
    have h0 := List.all_eq_true.1 hf i (List.mem_range.2 hi')
    have hfi : fs[i]? = some fs[i] := Array.getElem?_eq_getElem hi'
    rw [hfi] at h0
    simp only [Bool.and_eq_true, decide_eq_true_eq] at h0
    have h1 := hg i fs[i] hfi
    rw [h0.1, h0.2, hci, List.getElem?_eq_getElem (by omega)] at h1
    obtain ⟨a, ha, _⟩ := DataW.trod_int hi h1
    refine ⟨a, ?_⟩
    rw [List.drop_eq_getElem_cons (by omega)] at ha
    simp only [List.take_succ_cons, List.take_zero, List.cons.injEq, and_true] at ha
    rw [List.getElem?_eq_getElem (by omega), ha]
  refine ⟨cs.map valInt, by simp [hl, hct], ?_⟩
  apply List.ext_getElem?
  intro i
  rw [List.getElem?_map, List.getElem?_map]
  by_cases hi' : i < fs.size
  · obtain ⟨a, ha⟩ := key i hi'
    rw [ha]; rfl
  · rw [List.getElem?_eq_none (by omega)]; rfl
/-- A field of a struct. -/
theorem field_of_trod {t : TypeId} {fs : Array Field} {fuel : Nat} {cs : List Value} {x : DataW H × List MemPlace} (ht : P.underlying t = some (.struct fs)) (h : DataW.trod enc P W 0 (fun _ => true) true fuel t cs = some x) {i : Nat} {f : Field} {ft : TypeId} {o k : Nat}
    (hf : fs[i]? = some f) (h1 : f.type = ft) (h2 : f.offset = o) (h3 : P.cellsOf ft = k) : ∃ n y, DataW.trod enc P W 0 (fun _ => true) true n ft ((cs.drop o).take k) = some y := by
  obtain ⟨xs, n, _, _, hl, hxl, hg⟩ := DataW.trod_struct ht h
  have h0 := hg i f hf
  have hi' := (Array.getElem?_eq_some_iff.1 hf).1
  rw [h1, h2, h3, List.getElem?_eq_getElem (by omega)] at h0
  exact ⟨n, _, h0⟩
theorem struct_len {t : TypeId} {fs : Array Field} {fuel : Nat} {cs : List Value} {x : DataW H × List MemPlace} (ht : P.underlying t = some (.struct fs)) (h : DataW.trod enc P W 0 (fun _ => true) true fuel t cs = some x) : cs.length = P.cellsOf t := by
  obtain ⟨xs, n, _, _, hl, hxl, hg⟩ := DataW.trod_struct ht h
  exact hl
end
end Go.Proofs.Ytgceeggfdomdjaa

namespace Go.Proofs.Ytgceeggfdomdjaa
set_option maxRecDepth 100000
set_option linter.unusedSimpArgs false
set_option linter.unusedVariables false
open Go.ChangeShapes Go.WideShapes Go.ChangeAt Go.RowKit Go

theorem cells_i : Try.prog.cellsOf 3 = 1 := by kernel_rfl
section
variable {H : Type} {enc : TypeId × Value → H} {W : World}
theorem o_int {n : Nat} {cs : List Value} {y : DataW H × List MemPlace} (h : DataW.trod enc Try.prog W 0 (fun _ => true) true n 3 cs = some y) : ∃ a : Int, cs = [.int .i64 a] := by
  obtain ⟨a, ha, _⟩ := DataW.trod_int Try.underlying3 h
  exact ⟨a, ha⟩
theorem o_ent {n : Nat} {cs : List Value} {y : DataW H × List MemPlace} (h : DataW.trod enc Try.prog W 0 (fun _ => true) true n 168 cs = some y) : ∃ z : Sw.Ent, cs = z.enc ∧ True := by
  obtain ⟨zs, hl, rfl⟩ := ints_of_trod Try.underlying168 Try.underlying3 cells_i (by kernel_rfl) (by kernel_rfl) h
  match zs, hl with
  | [a, b, c, d], _ => exact ⟨⟨a, b, c, d⟩, rfl, trivial⟩
theorem o_deal {n : Nat} {cs : List Value} {y : DataW H × List MemPlace} (h : DataW.trod enc Try.prog W 0 (fun _ => true) true n 170 cs = some y) : ∃ z : Sw.Deal, cs = z.enc ∧ True := by
  obtain ⟨zs, hl, rfl⟩ := ints_of_trod Try.underlying170 Try.underlying3 cells_i (by kernel_rfl) (by kernel_rfl) h
  match zs, hl with
  | [a, b, c, d, e], _ => exact ⟨⟨a, b, c, d, e⟩, rfl, trivial⟩
theorem o_ents {n : Nat} {cs : List Value} {y : DataW H × List MemPlace} (h : DataW.trod enc Try.prog W 0 (fun _ => true) true n 75 cs = some y) : ∃ A c n xs, cs = [.slice A n c] ∧ RE W 0 A c n xs := by
  obtain ⟨A, c, n, xs, h1, h2, _⟩ := rs_of_trod Try.underlying75 (sz := 4) (by kernel_rfl) (by omega) (fun _ => rfl) (fun n cs y h => o_ent h) h
  exact ⟨A, c, n, xs, h1, h2⟩
theorem o_deals {n : Nat} {cs : List Value} {y : DataW H × List MemPlace} (h : DataW.trod enc Try.prog W 0 (fun _ => true) true n 76 cs = some y) : ∃ A c n xs, cs = [.slice A n c] ∧ RDl W 0 A c n xs := by
  obtain ⟨A, c, n, xs, h1, h2, _⟩ := rs_of_trod Try.underlying76 (sz := 5) (by kernel_rfl) (by omega) (fun _ => rfl) (fun n cs y h => o_deal h) h
  exact ⟨A, c, n, xs, h1, h2⟩
theorem o_ints {n : Nat} {cs : List Value} {y : DataW H × List MemPlace} (h : DataW.trod enc Try.prog W 0 (fun _ => true) true n 25 cs = some y) : ∃ A c n xs, cs = [.slice A n c] ∧ RI W 0 A c n xs :=
  ri_of_trod Try.underlying25 Try.underlying3 cells_i h
theorem o_mkt {n : Nat} {cs : List Value} {y : DataW H × List MemPlace} (h : DataW.trod enc Try.prog W 0 (fun _ => true) true n 78 cs = some y) :
    ∃ aL aLc aLn aP aPc aPn aD aDc aDn aN aNc aNn aS aSc aSn, ∃ m : Sw.Mkt, cs = [.slice aL aLn aLc, .slice aP aPn aPc, .slice aD aDn aDc, .int .i64 m.clock, .slice aN aNn aNc, .slice aS aSn aSc] ∧ RM W 0 aL aLc aLn aP aPc aPn aD aDc aDn aN aNc aNn aS aSc aSn m := by
  have hl := struct_len Try.underlying78 h
  rw [show Try.prog.cellsOf 78 = 6 from by kernel_rfl] at hl
  match cs, hl with
  | [c0, c1, c2, c3, c4, c5], _ =>
    obtain ⟨_, _, k0⟩ := field_of_trod Try.underlying78 h (i := 0) rfl rfl rfl (show _ = 1 by kernel_rfl)
    obtain ⟨_, _, k1⟩ := field_of_trod Try.underlying78 h (i := 1) rfl rfl rfl (show _ = 1 by kernel_rfl)
    obtain ⟨_, _, k2⟩ := field_of_trod Try.underlying78 h (i := 2) rfl rfl rfl (show _ = 1 by kernel_rfl)
    obtain ⟨_, _, k3⟩ := field_of_trod Try.underlying78 h (i := 3) rfl rfl rfl (show _ = 1 by kernel_rfl)
    obtain ⟨_, _, k4⟩ := field_of_trod Try.underlying78 h (i := 4) rfl rfl rfl (show _ = 1 by kernel_rfl)
    obtain ⟨_, _, k5⟩ := field_of_trod Try.underlying78 h (i := 5) rfl rfl rfl (show _ = 1 by kernel_rfl)
    obtain ⟨A0, d0, n0, x0, e0, r0⟩ := o_ents k0
    obtain ⟨A1, d1, n1, x1, e1, r1⟩ := o_ints k1
    obtain ⟨A2, d2, n2, x2, e2, r2⟩ := o_deals k2
    obtain ⟨z, e3⟩ := o_int k3
    obtain ⟨A4, d4, n4, x4, e4, r4⟩ := o_ints k4
    obtain ⟨A5, d5, n5, x5, e5, r5⟩ := o_ints k5
    simp at e0 e1 e2 e3 e4 e5
    exact ⟨A0, d0, n0, A1, d1, n1, A2, d2, n2, A4, d4, n4, A5, d5, n5, ⟨x0, x1, x2, z, x4, x5⟩, by rw [e0, e1, e2, e3, e4, e5], ⟨r0, r1, r2, r4, r5⟩⟩
end
end Go.Proofs.Ytgceeggfdomdjaa

namespace Go.Proofs.Ytgceeggfdomdjaa
set_option maxRecDepth 100000
set_option linter.unusedSimpArgs false
set_option linter.unusedVariables false
open Go.ChangeShapes Go.WideShapes Go.ChangeAt Go.RowKit Go
theorem own_knob : ownKnob Try.prog.godebug = none := by kernel_rfl
theorem laid_out : laidOutB Try.prog = true := by kernel_rfl
end Go.Proofs.Ytgceeggfdomdjaa

