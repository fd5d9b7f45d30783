/- Texts joined: Gate2, Gate3, ImpM, PtrA, DelX, PtrB, ImpN, LawMk2, Range, Gate4, UpI, Show. -/
import Derived.Test.YtnnoiagommiapaaGreatPy20
import Derived.Test.YtnnoiagommiapaaGreatPy21
import Derived.Test.YtnnoiagommiapaaGreatPy15
import Derived.Shelf.RegionOpenPlain
import Derived.Deep.RegionLaw
import Derived.Lib.AppendZerosOnto
import Derived.Lib.Overlaps
import Derived.Laws.Externs
import Derived.Test.YtnnoiagommiapaaGreatPy22
import Derived.Test.YtnnoiagommiapaaGreatPy19
import Derived.Test.YtnnoiagommiapaaGreatPy17
import Derived.Test.YtnnoiagommiapaaGreatPy9
import Derived.Test.YtnnoiagommiapaaGreatPy5
import Derived.Test.YtnnoiagommiapaaGreatPy11
set_option maxRecDepth 100000
set_option linter.unusedSimpArgs false
set_option linter.unusedVariables false
namespace Go.Proofs.YtnnoiagommiapaaGreat
open Go.RowKit Go
set_option maxHeartbeats 400000
theorem sGatOk_c (t : Sw.Head) (A : Option Addr) (c n : Nat) (xs : List Int) (w : World) (hxs : RI w 0 A c n xs) : Calls Tryz.prog 98 #[.agg #[.int .i64 t.size, .int .i64 t.log, .int .i64 t.own, .slice A n c]] w fun E w' => E = .returned (.bool (Sw.gatOk ⟨t, xs⟩)) ∧ Ex w w' := by
 have hl := Lib.hid hxs.1
 have hcap := hxs.2.le
 have hbig : n ≤ 9223372036854775807 := by have := hxs.2.cap; unfold maxLen at this; omega
 cases g1 : Sw.hedOk t
 case false =>
   go_enter Tryz.func98, Tryz.ntmps98; go_wp2_with (first | (go_at_call 100; refine (sHedOk_c _ _).mono ?_; rintro E w1 ⟨rfl, hb⟩; obtain ⟨hc, hf, hz⟩ := xy hb)); go_ret; exact ⟨ret_b (by simp [Sw.gatOk, g1]), ext_⟩
 by_cases hn : n ≤ 8
 case neg =>
   have hb8 : decide (8 < n) = true := by simp; omega
   have e : Sw.gatOk ⟨t, xs⟩ = false := by
     cases hr : Sw.risesFrom (-1) xs with
     | true => have := rises_len xs (-1) hr (by omega) (by omega); have := hl.out; omega
     | false => simp [Sw.gatOk, hr]
   rw [e]; clear e
   go_enter Tryz.func98, Tryz.ntmps98; go_wp2_with (first | (go_at_call 100; refine (sHedOk_c _ _).mono ?_; rintro E w1 ⟨rfl, hb⟩; obtain ⟨hc, hf, hz⟩ := xy hb)); go_ret; exact ⟨rfl, ext_⟩
 have hb8 : decide (8 < n) = false := by simp; omega
 have e : Sw.gatOk ⟨t, xs⟩ = Sw.risesFrom (-1) xs := by simp [Sw.gatOk, g1]
 rw [e]; clear e
 go_enter Tryz.func98, Tryz.ntmps98
 go_wp2_with (first | (go_at_call 100; refine (sHedOk_c _ _).mono ?_; rintro E w1 ⟨rfl, hb⟩; obtain ⟨hc, hf, hz⟩ := xy hb))
 go_loopw [3] (fun i wr => ∃ (k : Nat) (p : Int), k ≤ n ∧ i = .int .i64 k ∧ Ex w1 wr ∧ (k = 0 ∧ p = -1 ∨ ∃ j, k = j + 1 ∧ xs[j]? = some p ∧ 0 ≤ p) ∧ Sw.risesFrom (-1) xs = Sw.risesFrom p (xs.drop k)) (fun i _ => n - (intOf i).toNat)
 case atStart => exact ⟨0, -1, Nat.zero_le _, rfl, Ch.refl _ _, .inl ⟨rfl, rfl⟩, rfl⟩
 case round =>
   obtain ⟨k, p, hk, rfl, hb2, hp, hrel⟩ := hrel
   have hst := Ex.rules hb2 rfl
   obtain ⟨hc2, hf2, hz2⟩ := hst
   by_cases hlt : k < n
   · obtain ⟨g, off, y, rfl, hg0, hg, hd, hy, hcy⟩ := at_I hxs hlt
     rw [hd, Sw.risesFrom] at hrel
     have Hrel := Lib.hid hrel
     have Hy := Lib.hid hy
     clear hd hy hrel
     cases hin : Sw.inR y 0 7
     case false =>
       go_wp2_with fail
       go_quiet ((first | (go_at_call 99; exact Calls.quiet_same (l1In_c _ _ _ _))))
       go_wp2
       go_ret
       exact ⟨ret_b (by rw [Hrel.out, hin]; rfl), ext_⟩
     have hy7 : 0 ≤ y ∧ y ≤ 7 := by simpa [Sw.inR] using hin
     obtain ⟨y0, y7⟩ := hy7
     rcases hp with ⟨rfl, rfl⟩ | ⟨j, rfl, hj, hj0⟩
     · simp only [Nat.add_zero] at hcy
       go_wp2_with fail
       go_quiet ((first | (go_at_call 99; exact Calls.quiet_same (l1In_c _ _ _ _))))
       go_wp2
       go_roundw
       case rel => exact ⟨0 + 1, y, by omega, by go_num, ext_, .inr ⟨0, rfl, Hy.out, y0⟩, by rw [Hrel.out, hin]; simp; omega⟩
       case measure => simp [intOf]; omega
     · obtain ⟨g', off', p', hA', _, _, _, hp', hcp⟩ := at_I hxs (show j < n by omega)
       cases hA'
       obtain rfl : p' = p := by rw [hj] at hp'; exact (Option.some.inj hp').symm
       clear hj hp'
       have t1 : ((j : Int) + 1).toNat = j + 1 := by omega
       have t2 : IntKind.i64.wrap ((j : Int) + 1 - 1) = j := by rw [IntWalk.i64_in _ (by omega)]; omega
       have t3 : (0 : Int) ≤ (j : Int) + 1 := by omega
       have t4 : (j : Int) + 1 < (n : Int) := by omega
       have t5 : (j : Int) < (n : Int) := by omega
       by_cases hpy : p' < y
       · go_wp2_with fail
         go_quiet ((first | (go_at_call 99; exact Calls.quiet_same (l1In_c _ _ _ _))))
         go_wp2
         go_roundw
         case rel => exact ⟨j + 1 + 1, y, by omega, by go_num, ext_, .inr ⟨j + 1, rfl, Hy.out, y0⟩, by rw [Hrel.out, hin]; simp [hpy]⟩
         case measure => simp [intOf]; omega
       · have hpy' : y ≤ p' := by omega
         go_wp2_with fail
         go_quiet ((first | (go_at_call 99; exact Calls.quiet_same (l1In_c _ _ _ _))))
         go_wp2
         go_ret
         have hlt' : decide (p' < y) = false := by rw [decide_eq_false_iff_not]; omega
         exact ⟨ret_b (by rw [Hrel.out, hin, hlt']; rfl), ext_⟩
   · have Hrel := Lib.hid hrel; clear hrel hp
     go_wp2_with fail
     go_ret
     refine ⟨ret_b ?_, ext_⟩
     have hh := Hrel.out
     rw [List.drop_of_length_le (by have := hl.out; omega)] at hh
     rw [hh]; rfl
set_option maxHeartbeats 400000
theorem sCopy_c (t : Sw.Head) (A : Option Addr) (c n : Nat) (xs : List Int) (w : World) (hxs : RI w 0 A c n xs) (hn : n ≤ 4194304) : Calls Tryz.prog 148 #[.agg #[.int .i64 t.size, .int .i64 t.log, .int .i64 t.own, .slice A n c]] w fun E w' => ∃ A' c', E = .returned (.agg #[.int .i64 t.size, .int .i64 t.log, .int .i64 t.own, .slice A' n c']) ∧ OwI w' w.heap.size A' c' n xs ∧ Ex w w' := by
 go_enter Tryz.func148, Tryz.ntmps148
 go_wp2_with fail
 (refine wn_ fun W0 hb0 hc0 hf0 hz0 => ?_; have hLb : Lb W0 (w.heap.size + 1) 4 := Lb.ex (by exact lbc_) hb0; go_region_held3 (fun w' => HeldB (w.heap.size + 1) 4 W0 w') ((exact hqb_)) ((apply step_app (lo := W0.heap.size) el_I one_I rfl rfl rfl rfl; (first | assumption | exact Ow.nil _ _ | (apply Ow.keep; assumption; exact kf_) | (refine own_)); (first | (exact rd_)); omega; exact sz_; intro A1 c1 w2 ho1 hch1 hat1 hex1 hlow1; have hbx := hex1 (· = (w.heap.size + 1)) W0 (HeldB.ch (by assumption : HeldB (w.heap.size + 1) 4 W0 _)) (by exact sz_); have hlbx := Lb.low hlow1 (by have := hLb.lt; omega) (HeldB.lb (by assumption : HeldB (w.heap.size + 1) 4 W0 _)); clear hex1 hlow1)); all_goals (rename HeldB (w.heap.size + 1) 4 W0 _ => hHx; have hb := HeldB.ch hHx; obtain ⟨hc, hf, hz⟩ := xd hb; have hLb3 := HeldB.lb hHx; (repeat (first | with_reducible replace hLb3 := Lb.unset hLb3 | with_reducible replace hLb3 := Lb.undrew hLb3)); obtain ⟨hcb, hfb⟩ := Lb.rules hLb3; clear hHx))
 go_wp2
 refine bodyPost_ret (v := .agg #[.int .i64 t.size, .int .i64 t.log, .int .i64 t.own, .slice A1 n c1]) (by simp [results, Tryz.results148, go_sem, *]) rfl ?_
 refine ⟨A1, c1, rfl, ?_, ?_⟩
 · rw [List.nil_append, Nat.zero_add] at ho1
   exact (ho1.keep (by (exact kf_))).less (by omega)
 · exact ext_
theorem sGatNew_c (w : World) : Calls Tryz.prog 174 #[] w fun E w' => E = .returned (.agg #[.int .i64 ((Sw.hedOf []).getD Sw.headZ).size, .int .i64 ((Sw.hedOf []).getD Sw.headZ).log, .int .i64 ((Sw.hedOf []).getD Sw.headZ).own, .slice none 0 0]) ∧ Ex w w' := by
 go_enter Tryz.func174, Tryz.ntmps174
 go_wp2_with (first | (go_at_call 204; apply Calls.mono; apply (sHedOf_c (xs := [])); (refine Rs.new [] (by simp only [World.size_alloc]) rfl rfl (fun _ => rfl) (by omega)); rintro E w1 ⟨rfl, hb⟩; obtain ⟨hc, hf, hz⟩ := xy hb))
 refine bodyPost_ret (v := .agg #[.int .i64 ((Sw.hedOf []).getD Sw.headZ).size, .int .i64 ((Sw.hedOf []).getD Sw.headZ).log, .int .i64 ((Sw.hedOf []).getD Sw.headZ).own, .slice none 0 0]) (by simp [results, Tryz.results174, go_sem, *]) rfl ?_
 exact ⟨rfl, ext_⟩
set_option maxHeartbeats 2000000
def SG (g lo : Nat) (τ : Nat → Nat) : Nat → Prop := fun b => b = g ∨ SM lo τ b
set_option maxHeartbeats 4000000
set_option maxHeartbeats 4000000
set_option maxHeartbeats 4000000
set_option maxHeartbeats 2000000
end Go.Proofs.YtnnoiagommiapaaGreat
namespace Go.Proofs.YtnnoiagommiapaaGreat
open Go.RowKit Go
set_option maxHeartbeats 1000000
structure MkM (w : World) (lo : Nat) (aL : Option Addr) (aLc aLn : Nat) (aP : Option Addr) (aPc aPn : Nat) (aD : Option Addr) (aDc aDn : Nat) (aN : Option Addr) (aNc aNn : Nat) (aS : Option Addr) (aSc aSn : Nat) (k : Int) : Prop where
 log : Rd w lo aL aLc 4 aLn (FI (marks k (aLn * 4)))
 purses : RI w lo aP aPc aPn (marks (k + (aLn : Int) * 4) aPn)
 deals : Rd w lo aD aDc 5 aDn (FI (marks (k + (aLn : Int) * 4 + aPn) (aDn * 5)))
 nums : RI w lo aN aNc aNn (marks (k + (aLn : Int) * 4 + aPn + (aDn : Int) * 5) aNn)
 said : RI w lo aS aSc aSn (marks (k + (aLn : Int) * 4 + aPn + (aDn : Int) * 5 + aNn) aSn)
theorem MkM.keep {w w' : World} {lo : Nat} {aL : Option Addr} {aLc aLn : Nat} {aP : Option Addr} {aPc aPn : Nat} {aD : Option Addr} {aDc aDn : Nat} {aN : Option Addr} {aNc aNn : Nat} {aS : Option Addr} {aSc aSn : Nat} {k : Int} (h : MkM w lo aL aLc aLn aP aPc aPn aD aDc aDn aN aNc aNn aS aSc aSn k) (hk : KF lo w w') : MkM w' lo aL aLc aLn aP aPc aPn aD aDc aDn aN aNc aNn aS aSc aSn k := ⟨h.1.keep hk, h.2.keep hk, h.3.keep hk, h.4.keep hk, h.5.keep hk⟩
theorem MkM.less {w : World} {lo lo' : Nat} {aL : Option Addr} {aLc aLn : Nat} {aP : Option Addr} {aPc aPn : Nat} {aD : Option Addr} {aDc aDn : Nat} {aN : Option Addr} {aNc aNn : Nat} {aS : Option Addr} {aSc aSn : Nat} {k : Int} (h : MkM w lo aL aLc aLn aP aPc aPn aD aDc aDn aN aNc aNn aS aSc aSn k) (hl : lo' ≤ lo) : MkM w lo' aL aLc aLn aP aPc aPn aD aDc aDn aN aNc aNn aS aSc aSn k := ⟨h.1.less hl, h.2.less hl, h.3.less hl, h.4.less hl, h.5.less hl⟩
section
variable {α : Type} {enc : α → List Value} {sz : Nat} {e : TypeId} {τ : Nat → Nat} {t u : Nat} {w w' w0 : World} {lo c n : Nat} {A : Option Addr} {xs : List α}
theorem OwT.other (h : OwT enc sz e τ t w lo A c n xs) (hb : Ch (atA A) w0 w') (k : KT τ u lo w w0) (hu : u ≠ t) : KT τ u lo w w' :=
 KT.ch hb k fun i ⟨a, ha, hi⟩ => .inr (by rw [hi, h.tag a ha]; exact Ne.symm hu)
end
end Go.Proofs.YtnnoiagommiapaaGreat
namespace Go.Proofs.YtnnoiagommiapaaGreat
open Go.RowKit Go
set_option maxHeartbeats 1000000
def Sw.Mkt.len (m : Sw.Mkt) : Nat := m.log.length + m.purses.length + m.deals.length + m.nums.length + m.said.length
section
variable {τ : Nat → Nat} {w w' w0 : World} {lo lo' hi : Nat}
theorem RM.len {aL : Option Addr} {aLc aLn : Nat} {aP : Option Addr} {aPc aPn : Nat} {aD : Option Addr} {aDc aDn : Nat} {aN : Option Addr} {aNc aNn : Nat} {aS : Option Addr} {aSc aSn : Nat} {m : Sw.Mkt} (h : RM w lo aL aLc aLn aP aPc aPn aD aDc aDn aN aNc aNn aS aSc aSn m) : aLn + aPn + aDn + aNn + aSn = m.len := by
 have h1 := h.1.1; have h2 := h.2.1; have h3 := h.3.1; have h4 := h.4.1; have h5 := h.5.1
 unfold Sw.Mkt.len; omega
theorem KF.trans {a b c : World} (h : KF lo a b) (k : KF lo b c) : KF lo a c :=
 ⟨Nat.le_trans h.size k.size, fun i h1 h2 => (k.block i h1 (Nat.lt_of_lt_of_le h2 h.size)).trans (h.block i h1 h2)⟩
def RG2 (l h : Nat) : Nat → Prop := fun b => l ≤ b ∧ b < h
theorem RG2.rules (hb : Ch (RG2 lo hi) w w') {g : Nat} (hg : g < lo ∨ hi ≤ g) (hs : g < w.heap.size) : (∀ o, w'.cell? ⟨g, o, none⟩ = w.cell? ⟨g, o, none⟩) :=
 fun o => hb.cell (p := ⟨g, o, none⟩) hs (fun h => by have h1 : lo ≤ g := h.1; have h2 : g < hi := h.2; omega)
end
end Go.Proofs.YtnnoiagommiapaaGreat
namespace Go.Proofs.YtnnoiagommiapaaGreat
open Go.RowKit Go
set_option maxHeartbeats 400000
theorem sGatSync_c (t u : Sw.Head) (A : Option Addr) (c n : Nat) (xs : List Int) (B : Option Addr) (d m : Nat) (ps : List Int) (w : World) (hxs : RI w 0 A c n xs) (hps : RI w 0 B d m ps) : Calls Tryz.prog 206 #[.agg #[.int .i64 t.size, .int .i64 t.log, .int .i64 t.own, .slice A n c], .agg #[.int .i64 u.size, .int .i64 u.log, .int .i64 u.own], .slice B m d] w fun E w' => ∃ A' c' n', E = .returned (.tuple #[.agg #[.int .i64 (Sw.gatSync ⟨t, xs⟩ u ps).1.head.size, .int .i64 (Sw.gatSync ⟨t, xs⟩ u ps).1.head.log, .int .i64 (Sw.gatSync ⟨t, xs⟩ u ps).1.head.own, .slice A' n' c'], .bool (Sw.gatSync ⟨t, xs⟩ u ps).2]) ∧ OwI w' w.heap.size A' c' n' (Sw.gatSync ⟨t, xs⟩ u ps).1.done ∧ Ex w w' := by
 have hl := Lib.hid hxs.1
 cases g1 : Sw.gatOk ⟨t, xs⟩
 case false =>
   have e : Sw.gatSync ⟨t, xs⟩ u ps = (Sw.gateZ, false) := by simp [Sw.gatSync, g1]
   have He := Lib.hid e; clear e
   go_enter Tryz.func206, Tryz.ntmps206
   go_wp2_with (first | (go_at_call 98; apply Calls.mono; apply sGatOk_c; (exact rd_); rintro E w1 ⟨rfl, hb⟩; obtain ⟨hc, hf, hz⟩ := xy hb))
   refine bodyPost_ret (v := .tuple #[.agg #[.int .i64 0, .int .i64 0, .int .i64 0, .slice none 0 0], .bool false]) (by simp [results, Tryz.results206, go_sem, *]) rfl ?_
   exact ⟨none, 0, 0, by rw [He.out]; rfl, by rw [He.out]; exact Ow.nil _ _, ext_⟩
 have h8 : n ≤ 8 := by have := gatOk_len g1; have := hl.out; simp at *; omega
 cases g2 : Sw.hedFollows t u ps
 case false =>
   have e : Sw.gatSync ⟨t, xs⟩ u ps = (⟨t, xs⟩, false) := by simp [Sw.gatSync, g1, g2]
   have He := Lib.hid e; clear e
   go_enter Tryz.func206, Tryz.ntmps206
   go_wp2_with (first | (go_at_call 98; apply Calls.mono; apply sGatOk_c; (exact rd_); rintro E w1 ⟨rfl, hb⟩; obtain ⟨hc, hf, hz⟩ := xy hb) | (go_at_call 148; apply Calls.mono; apply sCopy_c; (exact rd_); (first | assumption | omega); rintro E w1 ⟨A', c', rfl, hr, hb⟩; obtain ⟨hc, hf, hz⟩ := xy hb) | (go_at_call 248; apply Calls.mono; apply sHedFollows_c; (exact rd_); rintro E w1 ⟨rfl, hb⟩; obtain ⟨hc, hf, hz⟩ := xy hb))
   refine bodyPost_ret (v := .tuple #[.agg #[.int .i64 t.size, .int .i64 t.log, .int .i64 t.own, .slice A' n c'], .bool false]) (by simp [results, Tryz.results206, go_sem, *]) rfl ?_
   exact ⟨A', c', n, by rw [He.out], by rw [He.out]; exact (hr.keep (by (exact kf_))).less (by exact sz_), ext_⟩
 have e : Sw.gatSync ⟨t, xs⟩ u ps = (⟨u, xs⟩, true) := by simp [Sw.gatSync, g1, g2]
 have He := Lib.hid e; clear e
 go_enter Tryz.func206, Tryz.ntmps206
 go_wp2_with (first | (go_at_call 98; apply Calls.mono; apply sGatOk_c; (exact rd_); rintro E w1 ⟨rfl, hb⟩; obtain ⟨hc, hf, hz⟩ := xy hb) | (go_at_call 148; apply Calls.mono; apply sCopy_c; (exact rd_); (first | assumption | omega); rintro E w1 ⟨A', c', rfl, hr, hb⟩; obtain ⟨hc, hf, hz⟩ := xy hb) | (go_at_call 248; apply Calls.mono; apply sHedFollows_c; (exact rd_); rintro E w1 ⟨rfl, hb⟩; obtain ⟨hc, hf, hz⟩ := xy hb))
 refine bodyPost_ret (v := .tuple #[.agg #[.int .i64 u.size, .int .i64 u.log, .int .i64 u.own, .slice A' n c'], .bool true]) (by simp [results, Tryz.results206, go_sem, *]) rfl ?_
 exact ⟨A', c', n, by rw [He.out], by rw [He.out]; exact (hr.keep (by (exact kf_))).less (by exact sz_), ext_⟩
set_option maxHeartbeats 1000000
set_option maxHeartbeats 1000000
def hasI (xs : List Int) (t : Int) : Bool := xs.contains t
theorem sHas_c (A : Option Addr) (c n : Nat) (xs : List Int) (t : Int) (w : World) (hxs : RI w 0 A c n xs) : Calls Tryz.prog 249 #[.slice A n c, .int .i64 t] w fun E w' => E = .returned (.bool (hasI xs t)) ∧ w = w' := by
 have hl := Lib.hid hxs.1
 have hbig := Rs.big hxs
 go_enter Tryz.func249, Tryz.ntmps249
 go_wp2_with fail
 go_loop [5] (fun i => ∃ k : Nat, k ≤ n ∧ i = .int .i64 k ∧ hasI xs t = hasI (xs.drop k) t) (fun i => n - (intOf i).toNat)
 case atStart => exact ⟨0, Nat.zero_le _, rfl, rfl⟩
 case round =>
   obtain ⟨k, hk, rfl, hrel⟩ := hrel
   by_cases hlt : k < n
   · obtain ⟨g, off, y, rfl, hg0, hg, hd, hy, hcy⟩ := at_I hxs hlt
     rw [hd, show hasI (y :: xs.drop (k + 1)) t = (t == y || hasI (xs.drop (k + 1)) t) from List.contains_cons ..] at hrel
     have Hrel := Lib.hid hrel
     clear hrel hd hy
     cases hmx : (y == t)
     case true =>
       go_wp2_with fail
       go_ret
       exact ⟨ret_b (by rw [Hrel.out]; simp at hmx; simp [hmx]), rfl⟩
     case false =>
       go_wp2_with fail
       go_round
       case rel => exact ⟨k + 1, by omega, by go_num, by rw [Hrel.out]; simp at hmx; simp; intro h; exact absurd h.symm hmx⟩
       case measure => simp [intOf]; omega
   · have Hrel := Lib.hid hrel; clear hrel
     go_wp2_with fail
     go_ret
     exact ⟨ret_b (by rw [Hrel.out, List.drop_of_length_le (by have := hl.out; omega)]; rfl), rfl⟩
theorem sOwnCheckA_c (root t a b : Int) (u : Bool) (A : Option Addr) (c n : Nat) (xs : List Int) (w : World) (hxs : RI w 0 A c n xs) : Calls Tryz.prog 250 #[.int .i64 root, .int .i64 t, .agg #[.int .i64 a, .int .i64 b, .bool u], .slice A n c] w fun E w' => E = .returned (.bool (Sw.ownCheck root t ⟨a, b, u⟩ xs)) ∧ Ex w w' := sOwnCheck_c root t ⟨a, b, u⟩ A c n xs w hxs
theorem insert_step (d y : Int) (r : List Int) : Sw.insert d (y :: r) = if d < y then d :: y :: r else y :: Sw.insert d r := by rw [Sw.insert]
theorem sPut9_c (A : Option Addr) (c n : Nat) (xs : List Int) (d : Int) (w : World) (hxs : RI w 0 A c n xs) (hn : n ≤ 4194304) : Calls Tryz.prog 251 #[.slice A n c, .int .i64 d] w fun E w' => ∃ A' c', E = .returned (.slice A' (n + 1) c') ∧ OwI w' w.heap.size A' c' (n + 1) (Sw.insert d xs) ∧ Ex w w' := by
 have hl := Lib.hid hxs.1
 go_enter Tryz.func251, Tryz.ntmps251
 go_wp2_with fail
 go_loopw [5, 6, 7] (fun o f i wr => ∃ (k : Nat) (dn : Bool) (B : Option Addr) (e : Nat) (m : Nat) (es : List Int), k ≤ n ∧ i = .int .i64 k ∧ f = .bool dn ∧ o = .slice B m e ∧ (m = k + if dn then 1 else 0) ∧ Ex w wr ∧ OwI wr w.heap.size B e m es ∧
   Sw.insert d xs = (if dn then es ++ xs.drop k else es ++ Sw.insert d (xs.drop k))) (fun _ _ i _ => n - (intOf i).toNat)
 case atStart =>
   exact ⟨0, false, _, _, 0, [], Nat.zero_le _, rfl, rfl, rfl, rfl, ext_, Ow.new [] rfl rfl rfl (fun _ => rfl) (Nat.le_refl _) (by omega), by simp⟩
 case round =>
   obtain ⟨k, dn, B, e, m, es, hk, rfl, rfl, rfl, hm, hb, ho, heq⟩ := hrel
   have hst := Ex.rules hb rfl
   obtain ⟨hc, hf, hz⟩ := hst
   have HE := Lib.hid heq; clear heq
   have HM := Lib.hid hm
   have hmn : m ≤ n + 1 := by rw [hm]; split <;> omega
   clear hm
   by_cases hlt : k < n
   · obtain ⟨g, off, y, rfl, hg0, hg, hd, hy, hcy⟩ := at_I hxs hlt
     have HD := Lib.hid hd; clear hd hy
     cases dn
     case true =>
       go_wp2_with (at_builtin; apply wpList_app (lo := w.heap.size) el_I one_I rfl rfl rfl rfl; (first | assumption | exact Ow.nil _ _ | (apply Ow.keep; assumption; exact kf_) | (refine own_)); (first | (refine Rs.new [y] (by (first | rfl | (simp only [zq_]; done) | omega)) rfl rfl (fun _ => rfl) (by omega))); omega; exact sz_; intro A1 c1 w2 ho1 hch1 hat1 hex1 hlow1; have hb := hex1 (fun _ => False) w (by exact ext_) (by exact sz_); have hz := hch1.size; (try simp only [zq_] at hz); obtain ⟨hc, hf⟩ := low_rules hlow1; clear hlow1 hex1)
       go_roundw
       case rel => exact ⟨k + 1, true, A1, c1, m + 1, es ++ [y], by omega, by go_num, rfl, rfl, by have := HM.out; simp at this ⊢; omega, hb, ho1, by rw [HE.out, HD.out]; simp⟩
       case measure => simp [intOf]; omega
     case false =>
       have HI := Lib.hid (insert_step d y (xs.drop (k + 1)))
       by_cases hcmp : d < y
       · go_wp2_with (first | (at_builtin; apply wpList_app (lo := w.heap.size) el_I one_I rfl rfl rfl rfl; (first | assumption | exact Ow.nil _ _ | (apply Ow.keep; assumption; exact kf_) | (refine own_)); (first | (refine Rs.new [d] (by (first | rfl | (simp only [zq_]; done) | omega)) rfl rfl (fun _ => rfl) (by omega))); omega; exact sz_; intro A1 c1 w2 ho1 hch1 hat1 hex1 hlow1; have hb := hex1 (fun _ => False) w (by exact ext_) (by exact sz_); have hz := hch1.size; (try simp only [zq_] at hz); obtain ⟨hc, hf⟩ := low_rules hlow1; clear hlow1 hex1) | (at_builtin; apply wpList_app (lo := w.heap.size) el_I one_I rfl rfl rfl rfl; (first | assumption | exact Ow.nil _ _ | (apply Ow.keep; assumption; exact kf_) | (refine own_)); (first | (refine Rs.new [y] (by (first | rfl | (simp only [zq_]; done) | omega)) rfl rfl (fun _ => rfl) (by omega))); omega; exact sz_; intro A1 c1 w2 ho1 hch1 hat1 hex1 hlow1; have hb := hex1 (fun _ => False) w (by exact ext_) (by exact sz_); have hz := hch1.size; (try simp only [zq_] at hz); obtain ⟨hc, hf⟩ := low_rules hlow1; clear hlow1 hex1))
         go_roundw
         case rel => exact ⟨k + 1, true, A1, c1, m + 1 + 1, es ++ [d] ++ [y], by omega, by go_num, rfl, rfl, by have := HM.out; simp at this ⊢; omega, hb, ho1, by rw [HE.out, HD.out, HI.out]; simp [hcmp]⟩
         case measure => simp [intOf]; omega
       · have HC := Lib.hid hcmp
         go_wp2_with (at_builtin; apply wpList_app (lo := w.heap.size) el_I one_I rfl rfl rfl rfl; (first | assumption | exact Ow.nil _ _ | (apply Ow.keep; assumption; exact kf_) | (refine own_)); (first | (refine Rs.new [y] (by (first | rfl | (simp only [zq_]; done) | omega)) rfl rfl (fun _ => rfl) (by omega))); omega; exact sz_; intro A1 c1 w2 ho1 hch1 hat1 hex1 hlow1; have hb := hex1 (fun _ => False) w (by exact ext_) (by exact sz_); have hz := hch1.size; (try simp only [zq_] at hz); obtain ⟨hc, hf⟩ := low_rules hlow1; clear hlow1 hex1)
         go_roundw
         case rel => exact ⟨k + 1, false, A1, c1, m + 1, es ++ [y], by omega, by go_num, rfl, rfl, by have := HM.out; simp at this ⊢; omega, hb, ho1, by rw [HE.out, HD.out, HI.out]; have := HC.out; simp [show ¬ d < y from by omega]⟩
         case measure => simp [intOf]; omega
   · obtain rfl : k = n := by omega
     cases dn
     all_goals go_wp2_with (at_builtin; apply wpList_app (lo := w.heap.size) el_I one_I rfl rfl rfl rfl; (first | assumption | exact Ow.nil _ _ | (apply Ow.keep; assumption; exact kf_) | (refine own_)); (first | (refine Rs.new [d] (by (first | rfl | (simp only [zq_]; done) | omega)) rfl rfl (fun _ => rfl) (by omega))); omega; exact sz_; intro A1 c1 w2 ho1 hch1 hat1 hex1 hlow1; have hb := hex1 (fun _ => False) w (by exact ext_) (by exact sz_); have hz := hch1.size; (try simp only [zq_] at hz); obtain ⟨hc, hf⟩ := low_rules hlow1; clear hlow1 hex1)
     all_goals go_ret
     · have hmk : m + 1 = k + 1 := by have := HM.out; simp at this; omega
       rw [hmk] at ho1 ⊢
       refine ⟨A1, c1, rfl, ?_, ext_⟩
       rw [HE.out, List.drop_of_length_le (by have := hl.out; omega)]
       exact ho1
     · have hmk : m = k + 1 := by have := HM.out; simp at this; omega
       rw [hmk] at ho ⊢
       refine ⟨B, e, rfl, ?_, ext_⟩
       rw [HE.out, List.drop_of_length_le (by have := hl.out; omega)]
       simp
       exact ho
end Go.Proofs.YtnnoiagommiapaaGreat
