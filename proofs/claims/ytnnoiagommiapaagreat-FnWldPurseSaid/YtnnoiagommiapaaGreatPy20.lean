/- Texts joined: Impl2, Impl3, Impl4, ImpA, ImpB, ImpC, Gate, ImpD, Impl5, ImpE, Incl, GrowI, ImpF. -/
import Derived.Test.YtnnoiagommiapaaGreatPy9
import Derived.Test.YtnnoiagommiapaaGreatPy17
import Derived.Test.YtnnoiagommiapaaGreatPy14
import Derived.Test.YtnnoiagommiapaaGreatPy8
import Derived.Test.YtnnoiagommiapaaGreatPy5
import Derived.Test.YtnnoiagommiapaaGreatPy11
import Derived.Test.YtnnoiagommiapaaGreatPy12
import Derived.Test.YtnnoiagommiapaaGreatPy13
import Derived.Test.YtnnoiagommiapaaGreatPy15
import Derived.Test.YtnnoiagommiapaaGreatPy2
set_option maxRecDepth 100000
set_option linter.unusedSimpArgs false
set_option linter.unusedVariables false
namespace Go.Proofs.YtnnoiagommiapaaGreat
open Go.RowKit Go
set_option maxHeartbeats 400000
set_option maxHeartbeats 400000
set_option maxHeartbeats 400000
set_option maxHeartbeats 400000
set_option maxHeartbeats 1000000
set_option maxHeartbeats 1000000
def hitAt {α : Type} (p : α → Bool) (xs : List α) : Int := match xs.findIdx? p with
 | some i => i
 | none => -1
theorem hitAt_here {α : Type} {p : α → Bool} {xs : List α} {k : Nat} {y : α} (hy : xs[k]? = some y) (h : ∀ j, j < k → ∀ z, xs[j]? = some z → p z = false) (hm : p y = true) : hitAt p xs = k := by
 unfold hitAt
 obtain ⟨hk, rfl⟩ := List.getElem?_eq_some_iff.1 hy
 have : xs.findIdx? p = some k := by
   rw [List.findIdx?_eq_some_iff_getElem]
   exact ⟨hk, hm, fun j hj => by simp [h j hj xs[j] (by simp)]⟩
 rw [this]
theorem hitAt_none {α : Type} {p : α → Bool} {xs : List α} {k : Nat} (hk : xs.length ≤ k) (h : ∀ j, j < k → ∀ z, xs[j]? = some z → p z = false) : hitAt p xs = -1 := by
 unfold hitAt
 have : xs.findIdx? p = none := by
   rw [List.findIdx?_eq_none_iff]
   intro x hx
   obtain ⟨i, hi, rfl⟩ := List.getElem_of_mem hx
   exact h i (by omega) xs[i] (by simp)
 rw [this]
theorem notHit_step {α : Type} {p : α → Bool} {xs : List α} {k : Nat} {y : α} (hy : xs[k]? = some y) (h : ∀ j, j < k → ∀ z, xs[j]? = some z → p z = false) (hm : p y = false) : ∀ j, j < k + 1 → ∀ z, xs[j]? = some z → p z = false := by
 intro j hj z hz
 rcases Nat.lt_succ_iff_lt_or_eq.1 hj with hj' | rfl
 · exact h j hj' z hz
 · rw [hy] at hz; cases hz; exact hm
def monBad (n : Int) : Bool := !Sw.inR n 0 100000
set_option maxHeartbeats 400000
theorem sConCheck_c (m old nn r : Int) (A : Option Addr) (c n : Nat) (xs : List Int) (w : World) (hxs : RI w 0 A c n xs) : Calls Tryz.prog 276 #[.int .i64 m, .int .i64 old, .int .i64 nn, .int .i64 r, .slice A n c] w fun E w' => E = .returned (.bool (Sw.conCheck m old nn r xs)) ∧ Ex w w' := by
 have hl := Lib.hid hxs.1
 by_cases hg : (Sw.inR nn 1 40 && Sw.inR m 1 nn && Sw.mixOk old && Sw.mixOk r && Sw.treOk xs) = true
 · have hg' := hg
   simp only [Bool.and_eq_true] at hg'
   obtain ⟨⟨⟨⟨g1, g2⟩, g3⟩, g4⟩, g5⟩ := hg'
   have b1 : 1 ≤ nn ∧ nn ≤ 40 := by simpa [Sw.inR] using g1
   have b2 : 1 ≤ m ∧ m ≤ nn := by simpa [Sw.inR] using g2
   have h40 : n ≤ 40 := by have := hl.out; simp [Sw.treOk] at g5; omega
   have hall : xs.all Sw.mixOk = true := by simp only [Sw.treOk, Bool.and_eq_true] at g5; exact g5.2
   obtain ⟨k, rfl⟩ := Int.eq_ofNat_of_zero_le (show 0 ≤ nn by omega)
   obtain ⟨j, rfl⟩ := Int.eq_ofNat_of_zero_le (show 0 ≤ m by omega)
   have e : Sw.conCheck j old k r xs = (Sw.grR j k old xs.reverse true == some (old, r)) := by
     rw [Sw.conCheck, hg]; rfl
   have He := Lib.hid e
   clear e hg
   go_enter Tryz.func276, Tryz.ntmps276
   go_wp2_with (first | (go_at_call 99; refine (l1In_c _ _ _ _).mono ?_; rintro E w' ⟨rfl, rfl⟩) | (go_at_call 179; refine (sMixOk_c _ _).mono ?_; rintro E w' ⟨rfl, rfl⟩) | (go_at_call 101; apply Calls.mono; apply sTreOk_c; (exact rd_); rintro E w' ⟨rfl, rfl⟩) | (go_at_call 287; apply Calls.mono; apply (sBoth_c 40); omega; (exact rd_); omega; exact hall; exact g3; omega; omega; omega; rintro E w1 ⟨a, b, rfl, hr, ha, hb', hb⟩; have Hr := Lib.hid hr; clear hr; cases hs : Sw.grR j k old xs.reverse true))
   all_goals (go_ret; refine ⟨ret_b ?_, ext_⟩; rw [He.out, hs])
   · rfl
   all_goals
     obtain rfl := Hr.out _ hs
     rw [Bool.eq_iff_iff]
     simp [*]
 · have hg' : (Sw.inR nn 1 40 && Sw.inR m 1 nn && Sw.mixOk old && Sw.mixOk r && Sw.treOk xs) = false := by simpa using hg
   have e : Sw.conCheck m old nn r xs = false := by rw [Sw.conCheck, hg']; rfl
   rw [e]
   have Hg := Lib.hid hg'
   clear e hg hg'
   cases g1 : Sw.inR nn 1 40
   case false => go_enter Tryz.func276, Tryz.ntmps276; go_wp2_with (first | (go_at_call 99; refine (l1In_c _ _ _ _).mono ?_; rintro E w' ⟨rfl, rfl⟩)); go_ret; exact ⟨rfl, ext_⟩
   cases g2 : Sw.inR m 1 nn
   case false => go_enter Tryz.func276, Tryz.ntmps276; go_wp2_with (first | (go_at_call 99; refine (l1In_c _ _ _ _).mono ?_; rintro E w' ⟨rfl, rfl⟩)); go_ret; exact ⟨rfl, ext_⟩
   cases g3 : Sw.mixOk old
   case false => go_enter Tryz.func276, Tryz.ntmps276; go_wp2_with (first | (go_at_call 99; refine (l1In_c _ _ _ _).mono ?_; rintro E w' ⟨rfl, rfl⟩) | (go_at_call 179; refine (sMixOk_c _ _).mono ?_; rintro E w' ⟨rfl, rfl⟩)); go_ret; exact ⟨rfl, ext_⟩
   cases g4 : Sw.mixOk r
   case false => go_enter Tryz.func276, Tryz.ntmps276; go_wp2_with (first | (go_at_call 99; refine (l1In_c _ _ _ _).mono ?_; rintro E w' ⟨rfl, rfl⟩) | (go_at_call 179; refine (sMixOk_c _ _).mono ?_; rintro E w' ⟨rfl, rfl⟩)); go_ret; exact ⟨rfl, ext_⟩
   cases g5 : Sw.treOk xs
   case false => go_enter Tryz.func276, Tryz.ntmps276; go_wp2_with (first | (go_at_call 99; refine (l1In_c _ _ _ _).mono ?_; rintro E w' ⟨rfl, rfl⟩) | (go_at_call 179; refine (sMixOk_c _ _).mono ?_; rintro E w' ⟨rfl, rfl⟩) | (go_at_call 101; apply Calls.mono; apply sTreOk_c; (exact rd_); rintro E w' ⟨rfl, rfl⟩)); go_ret; exact ⟨rfl, ext_⟩
   have := Hg.out
   rw [g1, g2, g3, g4, g5] at this
   cases this
theorem sHedAt_c (A : Option Addr) (c n : Nat) (s : Int) (xs : List Sw.Ent) (w : World) (hxs : RE w 0 A c n xs) : Calls Tryz.prog 219 #[.slice A n c, .int .i64 s] w fun E w' => E = .returned (.tuple #[.agg #[.int .i64 ((Sw.hedAt xs s).getD Sw.headZ).size, .int .i64 ((Sw.hedAt xs s).getD Sw.headZ).log, .int .i64 ((Sw.hedAt xs s).getD Sw.headZ).own], .bool (Sw.hedAt xs s).isSome]) ∧ Ex w w' := by
 have hl := Lib.hid hxs.1
 have hcap := hxs.2.le
 have hbig : n ≤ 9223372036854775807 := by have := hxs.2.cap; unfold maxLen at this; omega
 cases h1 : Sw.inR s 0 n with
 | true =>
   have b1 : 0 ≤ s ∧ s ≤ n := by simpa [Sw.inR] using h1
   obtain ⟨k, rfl⟩ := Int.eq_ofNat_of_zero_le (show 0 ≤ s by omega)
   have z0 : (0 : Int) ≤ ↑k := by omega
   have z1 : (↑k : Int) ≤ ↑n := by omega
   have z2 : (↑k : Int) ≤ ↑c := by omega
   have e : Sw.hedAt xs k = Sw.hedOf (xs.take k) := by rw [Sw.hedAt, ← hl.out, h1]; rfl
   rw [e]
   clear e
   go_enter Tryz.func219, Tryz.ntmps219
   go_wp2_with (first | (go_at_call 99; refine (l1In_c _ _ _ _).mono ?_; rintro E w' ⟨rfl, rfl⟩) | (go_at_call 204; apply Calls.mono; apply sHedOf_c; (apply Rs.at0; apply Rs.take hxs (fun _ => rfl); omega; (exact kf_)); rintro E w1 ⟨rfl, hb⟩; obtain ⟨hc, hf, hz⟩ := xy hb))
   refine bodyPost_ret (v := .tuple #[.agg #[.int .i64 ((Sw.hedOf (xs.take k)).getD Sw.headZ).size, .int .i64 ((Sw.hedOf (xs.take k)).getD Sw.headZ).log, .int .i64 ((Sw.hedOf (xs.take k)).getD Sw.headZ).own], .bool (Sw.hedOf (xs.take k)).isSome]) (by simp [results, Tryz.results219, go_sem, *]) rfl ?_
   exact ⟨rfl, ext_⟩
 | false =>
   have e : Sw.hedAt xs s = none := by rw [Sw.hedAt, ← hl.out, h1]; rfl
   rw [e]
   go_enter Tryz.func219, Tryz.ntmps219
   go_wp2_with (first | (go_at_call 99; refine (l1In_c _ _ _ _).mono ?_; rintro E w' ⟨rfl, rfl⟩))
   refine bodyPost_ret (v := .tuple #[.agg #[.int .i64 0, .int .i64 0, .int .i64 0], .bool false]) (by simp [results, Tryz.results219, go_sem, *]) rfl ?_
   exact ⟨rfl, ext_⟩
theorem sHedFollows_c (o t : Sw.Head) (A : Option Addr) (c n : Nat) (xs : List Int) (w : World) (hxs : RI w 0 A c n xs) : Calls Tryz.prog 248 #[.agg #[.int .i64 o.size, .int .i64 o.log, .int .i64 o.own], .agg #[.int .i64 t.size, .int .i64 t.log, .int .i64 t.own], .slice A n c] w fun E w' => E = .returned (.bool (Sw.hedFollows o t xs)) ∧ Ex w w' := by
 have hl := Lib.hid hxs.1
 cases g1 : Sw.hedOk o
 case false =>
   go_enter Tryz.func248, Tryz.ntmps248; go_wp2_with (first | (go_at_call 100; refine (sHedOk_c _ _).mono ?_; rintro E w1 ⟨rfl, hb⟩; obtain ⟨hc, hf, hz⟩ := xy hb)); go_ret; exact ⟨ret_b (by simp [Sw.hedFollows, g1]), ext_⟩
 cases g2 : Sw.hedOk t
 case false =>
   go_enter Tryz.func248, Tryz.ntmps248; go_wp2_with (first | (go_at_call 100; refine (sHedOk_c _ _).mono ?_; rintro E w1 ⟨rfl, hb⟩; obtain ⟨hc, hf, hz⟩ := xy hb)); go_ret; exact ⟨ret_b (by simp [Sw.hedFollows, g2]), ext_⟩
 by_cases g3 : o.size ≤ t.size
 case neg =>
   have e : Sw.hedFollows o t xs = false := by simp [Sw.hedFollows, g3]
   rw [e]; clear e
   have g3' : t.size < o.size := by omega
   go_enter Tryz.func248, Tryz.ntmps248; go_wp2_with (first | (go_at_call 100; refine (sHedOk_c _ _).mono ?_; rintro E w1 ⟨rfl, hb⟩; obtain ⟨hc, hf, hz⟩ := xy hb)); go_ret; exact ⟨rfl, ext_⟩
 have n1 := g1; have n2 := g2
 simp only [Sw.hedOk, Sw.inR, Bool.and_eq_true, decide_eq_true_eq] at n1 n2
 obtain ⟨⟨⟨o0, _⟩, _⟩, _⟩ := n1
 obtain ⟨⟨⟨t0, _⟩, _⟩, _⟩ := n2
 by_cases g4 : o.size = 0
 · have z0 : (o.size == 0) = true := by simp [g4]
   have hle : decide (o.size ≤ t.size) = true := by simp [g3]
   have e : Sw.hedFollows o t xs = ((decide (o.size ≠ t.size) || decide (o = t)) && xs.isEmpty) := by rw [Sw.hedFollows, g1, g2, hle, if_pos g4]; simp
   have He := Lib.hid e
   have G4 := Lib.hid g4
   clear e g4
   by_cases hn : n = 0
   · have hx : xs = [] := List.eq_nil_of_length_eq_zero (by have := hl.out; omega)
     subst hx
     subst hn
     clear hl
     go_enter Tryz.func248, Tryz.ntmps248
     go_wp2_with (first | (go_at_call 100; refine (sHedOk_c _ _).mono ?_; rintro E w1 ⟨rfl, hb⟩; obtain ⟨hc, hf, hz⟩ := xy hb))
     all_goals (go_ret; refine ⟨ret_b ?_, ext_⟩; rw [He.out]; have g4 := G4.out; clear He G4; go_tidy; simp only [head_ext])
     all_goals (first | (simp [*]; done) | (simp [*]; omega) | (simp_all; done) | (simp_all; omega))
   · have hb : ((n : Int) == 0) = false := by simp; omega
     have hx : xs.isEmpty = false := by
       cases xs with
       | nil => exact absurd hl.out hn
       | cons _ _ => rfl
     go_enter Tryz.func248, Tryz.ntmps248
     go_wp2_with (first | (go_at_call 100; refine (sHedOk_c _ _).mono ?_; rintro E w1 ⟨rfl, hb⟩; obtain ⟨hc, hf, hz⟩ := xy hb))
     go_ret
     exact ⟨ret_b (by rw [He.out, hx]; simp), ext_⟩
 · have z0 : (o.size == 0) = false := by simp [g4]
   have hle : decide (o.size ≤ t.size) = true := by simp [g3]
   have e : Sw.hedFollows o t xs = ((decide (o.size ≠ t.size) || decide (o = t)) && Sw.conCheck o.size o.log t.size t.log xs) := by rw [Sw.hedFollows, g1, g2, hle, if_neg g4]; simp
   have He := Lib.hid e
   clear e g4
   go_enter Tryz.func248, Tryz.ntmps248
   go_wp2_with (first | (go_at_call 100; refine (sHedOk_c _ _).mono ?_; rintro E w1 ⟨rfl, hb⟩; obtain ⟨hc, hf, hz⟩ := xy hb) | (go_at_call 276; apply Calls.mono; apply sConCheck_c; (exact rd_); rintro E w1 ⟨rfl, hb⟩; obtain ⟨hc, hf, hz⟩ := xy hb))
   all_goals (go_ret; refine ⟨ret_b ?_, ext_⟩; rw [He.out]; clear He; go_tidy; simp only [head_ext])
   all_goals (first | (simp [*]; done) | (simp [*]; omega) | (simp_all; done) | (simp_all; omega))
set_option maxHeartbeats 1000000
set_option maxHeartbeats 400000
set_option maxHeartbeats 8000000
set_option maxHeartbeats 1000000
theorem incl_small {N : Nat} {l : List Int} {i : Nat} (h : l.length ≤ 1) : Sw.incl N l i = [] := by
 cases N with
 | zero => rfl
 | succ N => rw [Sw.incl, if_pos h]
theorem incl_big {N : Nat} {l : List Int} {i : Nat} (h : ¬ l.length ≤ 1) : Sw.incl (N + 1) l i =
   if i < Sw.split l.length then Sw.incl N (l.take (Sw.split l.length)) i ++ [Sw.root (l.drop (Sw.split l.length))]
   else Sw.incl N (l.drop (Sw.split l.length)) (i - Sw.split l.length) ++ [Sw.root (l.take (Sw.split l.length))] := by
 rw [Sw.incl, if_neg h]
theorem sIncl_c (N : Nat) (A : Option Addr) (c n i : Nat) (xs : List Int) (w : World) (hN : n ≤ N) (hN4 : N ≤ 40) (hxs : RI w 0 A c n xs) (hok : xs.all Sw.mixOk = true) (hi : i ≤ 40) : Calls Tryz.prog 253 #[.slice A n c, .int .i64 i] w fun E w' => ∃ A' c' n', E = .returned (.slice A' n' c') ∧ OwI w' w.heap.size A' c' n' (Sw.incl N xs i) ∧ n' ≤ N ∧ Ex w w' := by
 induction N generalizing A c n i xs w with
 | zero =>
   obtain rfl : n = 0 := by omega
   have e : Sw.incl 0 xs i = [] := rfl
   rw [e]
   go_enter Tryz.func253, Tryz.ntmps253
   go_wp2_with fail
   go_ret
   refine ⟨_, _, _, rfl, ?_, Nat.zero_le _, ext_⟩
   (refine own_)
 | succ N ih =>
   have hl := Lib.hid hxs.1
   have hcap := hxs.2.le
   by_cases h1 : n ≤ 1
   · have e : Sw.incl (N + 1) xs i = [] := incl_small (by have := hl.out; omega)
     rw [e]
     have hlt : (n : Int) < 2 := by omega
     go_enter Tryz.func253, Tryz.ntmps253
     go_wp2_with fail
     go_ret
     refine ⟨_, _, _, rfl, ?_, Nat.zero_le _, ext_⟩
     (refine own_)
   · have h2 : 2 ≤ n := by omega
     have hs1 := Sw.split_lt h2
     have hs0 := Sw.split_pos n
     have hg := incl_big (N := N) (l := xs) (i := i) (by have := hl.out; omega)
     rw [← hl.out] at hg
     have Hg := Lib.hid hg
     clear hg
     have hnlt : ¬ (n : Int) < 2 := by omega
     have z3 : ¬ (c = Sw.split n) := by omega
     have z0 : (0 : Int) ≤ ↑(Sw.split n) := by omega
     have z1 : (↑(Sw.split n) : Int) ≤ ↑n := by omega
     have z2 : (↑(Sw.split n) : Int) ≤ ↑c := by omega
     by_cases hms : i < Sw.split n
     · go_enter Tryz.func253, Tryz.ntmps253
       go_wp2_with (first | (go_at_call 272; apply Calls.mono; apply sTreSplit_c; (first | assumption | omega); (first | assumption | omega); rintro E w' ⟨rfl, rfl⟩))
       (refine wn_ fun W0 hb0 hc0 hf0 hz0 => ?_; go_region_held3 (fun w' => Held W0 w') ((exact hq_)) ((first | (go_at_call 253; apply Calls.mono; apply ih; omega; omega; (apply Rs.at0; apply RI_take hxs; omega; (exact kf_)); exact List.all_take hok; omega; rintro E w1 ⟨A3, c3, n3, rfl, ho3, hn3, hb⟩; obtain ⟨hc, hf, hz⟩ := xy hb) | (go_at_call 244; apply Calls.mono; apply (sRoot_c 40); omega; (apply Rs.at0; apply RI_drop hxs; omega; (exact kf_)); omega; exact List.all_drop hok; rintro E w1 ⟨rfl, hb⟩; obtain ⟨hc, hf, hz⟩ := xy hb) | (apply step_app el_I one_I rfl rfl rfl rfl; (first | assumption | exact Ow.nil _ _ | (apply Ow.keep; assumption; exact kf_) | (refine own_)); (first | (refine Rs.new [Sw.root (xs.drop (Sw.split n))] (by (first | rfl | (simp only [zq_]; done) | omega)) rfl rfl (fun _ => rfl) (by omega))); omega; exact sz_; intro A1 c1 w2 ho1 hch1 hat1 hex1 hlow1; have hbx := hex1 (fun _ => False) W0 (And.right (by assumption : Held W0 _)) (by exact sz_); clear hex1 hlow1))); all_goals (obtain ⟨hb, hc, hf, hz⟩ := xh (by assumption : Held W0 _)))
       go_wp2
       go_ret
       refine ⟨_, _, _, rfl, ?_, by omega, ext_⟩
       rw [Hg.out, if_pos hms]
       exact ho1.less (by exact sz_)
     · have y0 : IntKind.i64.wrap ((i : Int) - ↑(Sw.split n)) = ((i - Sw.split n : Nat) : Int) := by rw [IntWalk.i64_in _ (by omega)]; omega
       go_enter Tryz.func253, Tryz.ntmps253
       go_wp2_with (first | (go_at_call 272; apply Calls.mono; apply sTreSplit_c; (first | assumption | omega); (first | assumption | omega); rintro E w' ⟨rfl, rfl⟩))
       (refine wn_ fun W0 hb0 hc0 hf0 hz0 => ?_; go_region_held3 (fun w' => Held W0 w') ((exact hq_)) ((first | (go_at_call 253; apply Calls.mono; apply ih; omega; omega; (apply Rs.at0; apply RI_drop hxs; omega; (exact kf_)); exact List.all_drop hok; omega; rintro E w1 ⟨A3, c3, n3, rfl, ho3, hn3, hb⟩; obtain ⟨hc, hf, hz⟩ := xy hb) | (go_at_call 244; apply Calls.mono; apply (sRoot_c 40); omega; (apply Rs.at0; apply RI_take hxs; omega; (exact kf_)); omega; exact List.all_take hok; rintro E w1 ⟨rfl, hb⟩; obtain ⟨hc, hf, hz⟩ := xy hb) | (apply step_app el_I one_I rfl rfl rfl rfl; (first | assumption | exact Ow.nil _ _ | (apply Ow.keep; assumption; exact kf_) | (refine own_)); (first | (refine Rs.new [Sw.root (xs.take (Sw.split n))] (by (first | rfl | (simp only [zq_]; done) | omega)) rfl rfl (fun _ => rfl) (by omega))); omega; exact sz_; intro A1 c1 w2 ho1 hch1 hat1 hex1 hlow1; have hbx := hex1 (fun _ => False) W0 (And.right (by assumption : Held W0 _)) (by exact sz_); clear hex1 hlow1))); all_goals (obtain ⟨hb, hc, hf, hz⟩ := xh (by assumption : Held W0 _)))
       go_wp2
       go_ret
       refine ⟨_, _, _, rfl, ?_, by omega, ext_⟩
       rw [Hg.out, if_neg hms]
       exact ho1.less (by exact sz_)
theorem sOwnProof_c (A : Option Addr) (c n : Nat) (xs : List Sw.Row) (t : Int) (w : World) (hxs : RR w 0 A c n xs) (hn : n ≤ 4194304) : Calls Tryz.prog 208 #[.slice A n c, .int .i64 t] w fun E w' => ∃ A' c' n', E = .returned (.slice A' n' c') ∧ OwI w' w.heap.size A' c' n' (Sw.ownProof xs t) ∧ Ex w w' := by
 have hl := Lib.hid hxs.1
 cases g1 : Sw.ownOk xs
 · have e : Sw.ownProof xs t = [] := by simp [Sw.ownProof, g1]
   rw [e]; clear e
   go_enter Tryz.func208, Tryz.ntmps208
   go_wp2_with (first | (go_at_call 252; apply Calls.mono; apply sOwnOk_c; (exact rd_); rintro E w1 ⟨rfl, hb⟩; obtain ⟨hc, hf, hz⟩ := xy hb) | (go_at_call 99; refine (l1In_c _ _ _ _).mono ?_; rintro E w' ⟨rfl, rfl⟩))
   go_ret
   refine ⟨_, _, _, rfl, ?_, ext_⟩
   (refine own_)
 cases g2 : Sw.inR t 0 7
 · have e : Sw.ownProof xs t = [] := by simp [Sw.ownProof, g2]
   rw [e]; clear e
   go_enter Tryz.func208, Tryz.ntmps208
   go_wp2_with (first | (go_at_call 252; apply Calls.mono; apply sOwnOk_c; (exact rd_); rintro E w1 ⟨rfl, hb⟩; obtain ⟨hc, hf, hz⟩ := xy hb) | (go_at_call 99; refine (l1In_c _ _ _ _).mono ?_; rintro E w' ⟨rfl, rfl⟩))
   go_ret
   refine ⟨_, _, _, rfl, ?_, ext_⟩
   (refine own_)
 have h8 := Sw.ownOk_len g1
 have hn8 : n = 8 := by have := hl.out; omega
 have ht := Sw.inR_iff.1 g2
 obtain ⟨k, rfl⟩ : ∃ k : Nat, t = k := ⟨t.toNat, by omega⟩
 have e : Sw.ownProof xs k = Sw.incl 8 (Sw.ownLeaves xs) k := by
   rw [Sw.ownProof, if_pos (by rw [g1, g2]; rfl), Sw.inclusion, Int.toNat_natCast, Sw.ownLeaves_len, h8]
 rw [e]
 have hmx := Sw.ownLeaves_mix xs
 subst hn8
 have hk : k ≤ 40 := by omega
 clear e h8 ht
 go_enter Tryz.func208, Tryz.ntmps208
 go_wp2_with (first | (go_at_call 252; apply Calls.mono; apply sOwnOk_c; (exact rd_); rintro E w1 ⟨rfl, hb⟩; obtain ⟨hc, hf, hz⟩ := xy hb) | (go_at_call 99; refine (l1In_c _ _ _ _).mono ?_; rintro E w' ⟨rfl, rfl⟩) | (go_at_call 254; apply Calls.mono; apply (sLeaves_c (xs := xs)); (apply Rs.at0 hxs; (exact kf_)); (try omega); rintro E w1 ⟨A1, c1, rfl, ho1, hb⟩; obtain ⟨hc, hf, hz⟩ := xy hb) | (go_at_call 253; apply Calls.mono; apply (sIncl_c 8 (xs := Sw.ownLeaves xs)); omega; omega; (apply Ow.rs0 ho1; (exact kf_)); exact hmx; omega; rintro E w2 ⟨A2, c2, n2, rfl, ho2, hn2, hb⟩; obtain ⟨hc, hf, hz⟩ := xy hb))
 go_ret
 exact ⟨_, _, _, rfl, (ho2.keep kf_).less sz_, ext_⟩
set_option maxHeartbeats 1000000
set_option maxHeartbeats 4000000
end Go.Proofs.YtnnoiagommiapaaGreat
