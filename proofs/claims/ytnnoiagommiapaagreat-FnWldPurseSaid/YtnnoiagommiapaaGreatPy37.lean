/- Texts joined: DoI, PtrJ, PtrK, DrawM, DrawN, PtrL. -/
import Derived.Test.YtnnoiagommiapaaGreatPy36
import Derived.Test.YtnnoiagommiapaaGreatPy32
import Derived.Test.YtnnoiagommiapaaGreatPy30
import Derived.Test.YtnnoiagommiapaaGreatPy26
import Derived.Test.YtnnoiagommiapaaGreatPy3
import Derived.Test.YtnnoiagommiapaaGreatPy21
import Derived.Test.YtnnoiagommiapaaGreatPy18
import Derived.Test.YtnnoiagommiapaaGreatPy23
import Derived.Test.YtnnoiagommiapaaGreatPy15
import Derived.Deep.CutBlock
import Derived.Deep.DeepCutAuto
import Derived.Test.YtnnoiagommiapaaGreatPy24
set_option maxRecDepth 100000
set_option linter.unusedSimpArgs false
set_option linter.unusedVariables false
namespace Go.Proofs.YtnnoiagommiapaaGreat
open Go.RowKit Go
set_option maxHeartbeats 2000000
theorem OwM.noted {aL aP aD : Option Addr} {aLc aLn aPc aPn aDc aDn aNc aNn aSc aSn : Nat} {m : Sw.Mkt} {τ : Nat → Nat} {w : World} {lo gN gS k : Nat} (h : OwM τ w lo aL aLc aLn aP aPc aPn aD aDc aDn (some ⟨gN, 0, none⟩) aNc aNn (some ⟨gS, 0, none⟩) aSc aSn m) (hn : k < m.nums.length) (hs : k < m.said.length) (a b : Int) :
   OwM τ ((w.setCell ⟨gN, k, none⟩ (.int .i64 a)).setCell ⟨gS, k, none⟩ (.int .i64 b)) lo aL aLc aLn aP aPc aPn aD aDc aDn (some ⟨gN, 0, none⟩) aNc aNn (some ⟨gS, 0, none⟩) aSc aSn { m with nums := m.nums.set k a, said := m.said.set k b } := by
 have tN : τ gN = 4 := h.nums.tag _ rfl
 have tS : τ gS = 5 := h.said.tag _ rfl
 have K : ∀ t, t ≠ 4 → t ≠ 5 → KT τ t lo w ((w.setCell ⟨gN, k, none⟩ (.int .i64 a)).setCell ⟨gS, k, none⟩ (.int .i64 b)) := fun t h4 h5 =>
   ((KT.refl _ _ _ _).setCell (.inr (by show τ gN ≠ t; rw [tN]; exact Ne.symm h4))).setCell (.inr (by show τ gS ≠ t; rw [tS]; exact Ne.symm h5))
 have hne : gS ≠ gN := by rintro rfl; rw [tN] at tS; cases tS
 refine ⟨h.log.keep (K 1 (by decide) (by decide)), h.purses.keep (K 2 (by decide) (by decide)), h.deals.keep (K 3 (by decide) (by decide)), ⟨?_, h.nums.tag⟩, ⟨?_, h.said.tag⟩⟩
 · have h1 := Ow.set h.nums.ow (fun _ => rfl) (k := k) (j := 0) (u := .int .i64 a) rfl (List.getElem?_eq_getElem hn) (by omega) (y := a) rfl
   simp only [Nat.mul_one, Nat.add_zero] at h1
   exact h1.keep_ fun x hx => by cases hx; exact Below.heap_setCell _ _ _ _ (show gN ≠ gS from Ne.symm hne)
 · have h1 : OwI (w.setCell ⟨gN, k, none⟩ (.int .i64 a)) lo (some ⟨gS, 0, none⟩) aSc aSn m.said := h.said.ow.keep_ fun x hx => by cases hx; exact Below.heap_setCell _ _ _ _ (show gS ≠ gN from hne)
   have h2 := Ow.set h1 (fun _ => rfl) (k := k) (j := 0) (u := .int .i64 b) rfl (List.getElem?_eq_getElem hs) (by omega) (y := b) rfl
   simpa only [Nat.mul_one, Nat.add_zero] using h2
theorem effect_lens {m : Sw.Mkt} {rows : List Sw.Row} {r : Sw.Req} (h : Sw.MOk m rows) (hr : Sw.reqOk r = true) : (Sw.effect m r).1.nums.length = 5 ∧ (Sw.effect m r).1.said.length = 5 := by
 have e := Sw.effect_eff h hr
 rw [e.nums, e.said]
 exact ⟨h.nlen, h.slen⟩
theorem sDo_c (aL : Option Addr) (aLc aLn : Nat) (aP : Option Addr) (aPc aPn : Nat) (aD : Option Addr) (aDc aDn : Nat) (aN : Option Addr) (aNc aNn : Nat) (aS : Option Addr) (aSc aSn : Nat) (m : Sw.Mkt) (r : Sw.Req) (rows : List Sw.Row) (lo : Nat) (τ : Nat → Nat) (w : World) (hM : OwM τ w lo aL aLc aLn aP aPc aPn aD aDc aDn aN aNc aNn aS aSc aSn m) (hok : Sw.MOk m rows) (hr : Sw.reqOk r = true) (hlo : lo ≤ w.heap.size) : Calls Tryz.prog 114 #[.agg #[.slice aL aLn aLc, .slice aP aPn aPc, .slice aD aDn aDc, .int .i64 m.clock, .slice aN aNn aNc, .slice aS aSn aSc], .agg #[.int .i64 r.user, .int .i64 r.n, .int .i64 r.kind, .int .i64 r.ticket, .int .i64 r.who, .int .i64 r.price]] w fun E w' => MktPost lo τ w w' E (Sw.doIt m r) := by
 have hr' := Sw.reqOk_iff.1 hr
 obtain ⟨ru, rn, rk, rt, rh, rp⟩ := r
 dsimp only at hr'
 obtain ⟨u, rfl⟩ := Int.eq_ofNat_of_zero_le (show 0 ≤ ru by omega)
 obtain ⟨⟨u1, u5⟩, -, -, -, -⟩ := hr'
 obtain ⟨v, rfl⟩ : ∃ v, u = v + 1 := ⟨u - 1, by omega⟩
 have hv : v < 5 := by omega
 have hnl : aNn = 5 := by rw [hM.nums.ow.1, hok.nlen]
 have hsl : aSn = 5 := by rw [hM.said.ow.1, hok.slen]
 subst hnl hsl
 obtain ⟨gN, x, rfl, hgN0, hgN, hx, qN, hfN⟩ := at_OI hM.nums.ow hv
 obtain ⟨gS, y, rfl, hgS0, hgS, hy, qS, hfS⟩ := at_OI hM.said.ow hv
 have e1 : Sw.lastOf m.nums ((v + 1 : Nat) : Int) = x := by unfold Sw.lastOf; rw [show (((v + 1 : Nat) : Int) - 1).toNat = v from by omega]; exact Sw.getD_of hx
 have e2 : Sw.lastOf m.said ((v + 1 : Nat) : Int) = y := by unfold Sw.lastOf; rw [show (((v + 1 : Nat) : Int) - 1).toNat = v from by omega]; exact Sw.getD_of hy
 have s1 : IntKind.i64.wrap (((v + 1 : Nat) : Int) - 1) = (v : Int) := by rw [show ((v + 1 : Nat) : Int) - 1 = (v : Int) from by omega]; exact IntWalk.i64_in _ (by omega)
 have i0 : (0 : Int) ≤ (v : Int) := by omega
 have i1 : (v : Int) < 5 := by omega
 clear hx hy
 have HR := Lib.hid hr
 have HK := Lib.hid hok
 clear hr hok
 by_cases h1 : rn = x
 · have g1 : (rn == x) = true := by simpa using h1
   have e : Sw.doIt m ⟨((v + 1 : Nat) : Int), rn, rk, rt, rh, rp⟩ = (m, y) := by unfold Sw.doIt; dsimp only; rw [e1, e2, if_pos h1]
   rw [e]
   clear e e1 e2 s1 h1
   have wv : IntKind.i64.wrap (v : Int) = (v : Int) := IntWalk.i64_in _ (by omega)
   have wv2 : IntKind.i64.wrap ((v : Int) + 1 - 1) = (v : Int) := by rw [Int.add_sub_cancel]; exact wv
   go_enter Tryz.func114, Tryz.ntmps114
   go_wp2_with fail
   (refine wn_ fun W0 hb0 hc0 hf0 hz0 => ?_; have hLb : Lb W0 (w.heap.size + 1 + 1) 6 := Lb.ex (by exact lbc_) hb0; go_region_held3 (fun w' => HeldB (w.heap.size + 1 + 1) 6 W0 w') ((exact hqb_)) (fail); all_goals (rename HeldB (w.heap.size + 1 + 1) 6 W0 _ => hHx; have hb := HeldB.ch hHx; obtain ⟨hc, hf, hz⟩ := xd hb; have hLb3 := HeldB.lb hHx; (repeat (first | with_reducible replace hLb3 := Lb.unset hLb3 | with_reducible replace hLb3 := Lb.undrew hLb3)); obtain ⟨hcb, hfb⟩ := Lb.rules hLb3; clear hHx))
   all_goals go_wp2
   refine bodyPost_ret (v := .tuple #[(.agg #[.slice aL aLn aLc, .slice aP aPn aPc, .slice aD aDn aDc, .int .i64 m.clock, .slice (some ⟨gN, 0, none⟩) 5 aNc, .slice (some ⟨gS, 0, none⟩) 5 aSc]), .int .i64 y]) (by simp [results, Tryz.results114, go_sem, *]) rfl ?_
   exact ⟨_, _, _, _, _, _, _, _, _, _, _, _, _, _, _, τ, rfl, hM.keepF kf_, fun _ _ => rfl, ext_⟩
 have g1 : (rn == x) = false := by simpa using h1
 by_cases h2 : rn < x
 · have e : Sw.doIt m ⟨((v + 1 : Nat) : Int), rn, rk, rt, rh, rp⟩ = (m, 7) := by unfold Sw.doIt; dsimp only; rw [e1, if_neg h1, if_pos h2]
   rw [e]
   clear e e1 e2 s1 h1
   go_enter Tryz.func114, Tryz.ntmps114
   go_wp2_with fail
   refine bodyPost_ret (v := .tuple #[(.agg #[.slice aL aLn aLc, .slice aP aPn aPc, .slice aD aDn aDc, .int .i64 m.clock, .slice (some ⟨gN, 0, none⟩) 5 aNc, .slice (some ⟨gS, 0, none⟩) 5 aSc]), .int .i64 7]) (by simp [results, Tryz.results114, go_sem, *]) rfl ?_
   exact ⟨_, _, _, _, _, _, _, _, _, _, _, _, _, _, _, τ, rfl, hM.keepF kf_, fun _ _ => rfl, ext_⟩
 have hle := effect_lens HK.out HR.out
 have e : Sw.doIt m ⟨((v + 1 : Nat) : Int), rn, rk, rt, rh, rp⟩ = ((fun z : Sw.Mkt × Int => (({ z.1 with nums := z.1.nums.set v rn, said := z.1.said.set v z.2 } : Sw.Mkt), z.2)) (Sw.effect m ⟨((v + 1 : Nat) : Int), rn, rk, rt, rh, rp⟩)) := by
   unfold Sw.doIt; dsimp only; rw [e1, if_neg h1, if_neg h2]; unfold Sw.noted; dsimp only; rw [show (((v + 1 : Nat) : Int) - 1).toNat = v from by omega]
 rw [e]
 clear e e1 e2 s1 h1
 obtain ⟨z, hz0⟩ : ∃ z, z = Sw.effect m ⟨((v + 1 : Nat) : Int), rn, rk, rt, rh, rp⟩ := ⟨_, rfl⟩
 rw [← hz0] at hle ⊢
 have HZ := Lib.hid hz0
 clear hz0
 have hG := hM.glueL (τ' := fun _ => 0) (Nat.le_refl _)
 dsimp only
 go_enter Tryz.func114, Tryz.ntmps114
 go_wp2_with fail
 apply Calls.mono
 apply (sKind_c (m := m) (r := ⟨(v : Int) + 1, rn, rk, rt, rh, rp⟩) (rows := rows) (τ := glue τ w.heap.size (fun _ => 0)))
 · exact hG.keepF kf_
 · exact HK.out
 · exact HR.out
 · exact sz_
 rintro E w1 ⟨bL, bLc, bLn, bP, bPc, bPn, bD, bDc, bDn, bN, bNc, bNn, bS, bSc, bSn, τ1, rfl, ho, hτ, hb⟩
 rw [show Sw.effect m ⟨(v : Int) + 1, rn, rk, rt, rh, rp⟩ = z from HZ.out.symm] at ho ⊢
 obtain ⟨hB0, hF0⟩ := Ch.sm_keep hb (g := w.heap.size + 1 + 1) sz_ (if_neg (by omega))
 obtain ⟨hB1, hF1⟩ := Ch.sm_keep hb (g := w.heap.size + 1) sz_ (if_neg (by omega))
 have hz := hb.size
 (try simp only [zq_] at hz)
 obtain rfl : bNn = 5 := by rw [ho.nums.ow.1, hle.1]
 obtain rfl : bSn = 5 := by rw [ho.said.ow.1, hle.2]
 have hln : v < z.1.nums.length := by rw [hle.1]; exact hv
 have hls : v < z.1.said.length := by rw [hle.2]; exact hv
 clear hle
 obtain ⟨gM, xM, rfl, hgM0, hgM, hxM, cM, hfM⟩ := at_OI ho.nums.ow hv
 obtain ⟨gT, xT, rfl, hgT0, hgT, hxT, cT, hfT⟩ := at_OI ho.said.ow hv
 have tM : τ1 gM = 4 := ho.nums.tag _ rfl
 have tT : τ1 gT = 5 := ho.said.tag _ rfl
 have hMT : gM ≠ gT := by rintro rfl; rw [tM] at tT; cases tT
 have hMw : gM < w.heap.size ∨ w.heap.size + 3 ≤ gM := by
   by_cases h : gM < w.heap.size
   · exact .inl h
   · refine .inr (Nat.not_lt.1 fun h' => ?_)
     have := hτ gM (by simp only [zA]; omega)
     rw [tM, show glue τ w.heap.size (fun _ => 0) gM = 0 from if_neg h] at this
     cases this
 have hTw : gT < w.heap.size ∨ w.heap.size + 3 ≤ gT := by
   by_cases h : gT < w.heap.size
   · exact .inl h
   · refine .inr (Nat.not_lt.1 fun h' => ?_)
     have := hτ gT (by simp only [zA]; omega)
     rw [tT, show glue τ w.heap.size (fun _ => 0) gT = 0 from if_neg h] at this
     cases this
 have HX := Lib.hid (And.intro hxM hxT)
 have HT := Lib.hid (And.intro tM tT)
 clear hxM hxT tM tT
 go_wp2_with fail
 refine bodyPost_ret (v := .tuple #[.agg #[.slice bL bLn bLc, .slice bP bPn bPc, .slice bD bDn bDc, .int .i64 z.1.clock, .slice (some ⟨gM, 0, none⟩) 5 bNc, .slice (some ⟨gT, 0, none⟩) 5 bSc], .int .i64 z.2]) (by simp [results, Tryz.results114, go_sem, *]) rfl ?_
 have m1 := OwM.noted ho hln hls rn z.2
 have S1 : ∀ i, SM lo (glue τ w.heap.size (fun _ => 0)) i → i < w.heap.size → SM lo τ i := fun i h hi => ⟨h.1, by have := h.2; rwa [show glue τ w.heap.size (fun _ => 0) i = τ i from if_pos hi] at this⟩
 have hW : w.heap.size ≤ (((w.alloc (.cells #[.slice aL aLn aLc, .slice aP aPn aPc, .slice aD aDn aDc, .int .i64 m.clock, .slice (some ⟨gN, 0, none⟩) 5 aNc, .slice (some ⟨gS, 0, none⟩) 5 aSc] 40))).heap.size) := sz_
 have hS0 := Ch.trans' (show Ch (SM lo τ) w _ from ext_) hb (fun i hi h => S1 i h hi)
 have t0 : ∀ b, w.heap.size ≤ b → b < w.heap.size + 3 → τ1 b = 0 := fun b h1 h2 => (hτ b (by simp only [zA]; omega)).trans (if_neg (by omega))
 have hsM : SM lo τ gM ∨ w.heap.size ≤ gM := by
   rcases hMw with h | h
   · refine .inl ⟨hgM0, ?_⟩
     have := (hτ gM (by simp only [zA]; omega)).symm.trans HT.out.1
     rw [show glue τ w.heap.size (fun _ => 0) gM = τ gM from if_pos h] at this
     omega
   · exact .inr (by omega)
 have hsT : SM lo τ gT ∨ w.heap.size ≤ gT := by
   rcases hTw with h | h
   · refine .inl ⟨hgT0, ?_⟩
     have := (hτ gT (by simp only [zA]; omega)).symm.trans HT.out.2
     rw [show glue τ w.heap.size (fun _ => 0) gT = τ gT from if_pos h] at this
     omega
   · exact .inr (by omega)
 refine ⟨_, _, _, _, _, _, _, _, _, _, _, _, _, _, _, τ1, rfl, m1.box (g0 := w.heap.size) (g1 := w.heap.size + 3) bx_ t0, fun b hb => (hτ b (by simp only [zA]; omega)).trans (if_pos hb), ?_⟩
 (with_reducible repeat (first | exact cR _ _ | apply cA | apply cD | apply cN | (refine cS ?_ (Or.inr (by first | omega | (simp only [zq_]; omega))) _) | (refine cS ?_ hsM _) | (refine cS ?_ hsT _) | (apply cE; assumption) | (apply cK; assumption)))
end Go.Proofs.YtnnoiagommiapaaGreat
namespace Go.Proofs.YtnnoiagommiapaaGreat
open Go.RowKit Go
set_option maxHeartbeats 8000000
section
variable {g o n lo : Nat} {τ0 τ : Nat → Nat} {w0 w : World} {aL : Option Addr} {aLc aLn : Nat} {aP : Option Addr} {aPc aPn : Nat} {aD : Option Addr} {aDc aDn : Nat} {aN : Option Addr} {aNc aNn : Nat} {aS : Option Addr} {aSc aSn : Nat} {m : Sw.Mkt}
end
section
variable {g o n lo k : Nat} {τ0 τ : Nat → Nat} {w0 w : World} {aL aP aD : Option Addr} {aLc aLn aPc aPn aDc aDn aNc aNn aSc aSn gN gS : Nat} {m : Sw.Mkt}
theorem MS.noted (h : MS g o n lo τ0 w0 aL aLc aLn aP aPc aPn aD aDc aDn (some ⟨gN, 0, none⟩) aNc aNn (some ⟨gS, 0, none⟩) aSc aSn m τ w) (hn : k < m.nums.length) (hs : k < m.said.length) (a b : Int) :
   MS g o n lo τ0 w0 aL aLc aLn aP aPc aPn aD aDc aDn (some ⟨gN, 0, none⟩) aNc aNn (some ⟨gS, 0, none⟩) aSc aSn { m with nums := m.nums.set k a, said := m.said.set k b } τ ((w.setCell ⟨gN, k, none⟩ (.int .i64 a)).setCell ⟨gS, k, none⟩ (.int .i64 b)) := by
 have tN := h.ow.nums.tag _ rfl
 have tS := h.ow.said.tag _ rfl
 have neN : gN ≠ g := h.ne tN (by decide)
 have neS : gS ≠ g := h.ne tS (by decide)
 have mN := h.may (h.ow.nums.ow.blk rfl).1 tN (by decide) (by decide)
 have mS := h.may (h.ow.said.ow.blk rfl).1 tS (by decide) (by decide)
 have gne : ∀ i j : Nat, (⟨gN, i, none⟩ : Addr) ≠ ⟨g, j, none⟩ := fun i j e => neN (by injection e)
 have sne : ∀ i j : Nat, (⟨gS, i, none⟩ : Addr) ≠ ⟨g, j, none⟩ := fun i j e => neS (by injection e)
 exact ⟨(h.at_.other _ neN).other _ neS, h.lb.set.set, h.ow.noted hn hs a b, h.tag, fun i hi => ((World.cell?_setCell_other _ _ _ _ (sne _ _)).trans (World.cell?_setCell_other _ _ _ _ (gne _ _))).trans (h.out i hi), cS (p := ⟨gS, k, none⟩) (cS (p := ⟨gN, k, none⟩) h.ch mN _) mS _, h.glt, h.gz, h.llo⟩
end
section
variable {g o n lo : Nat} {τ0 τ : Nat → Nat} {w0 w : World} {aL : Option Addr} {aLc aLn : Nat} {aP : Option Addr} {aPc aPn : Nat} {aD : Option Addr} {aDc aDn : Nat} {aN : Option Addr} {aNc aNn : Nat} {aS : Option Addr} {aSc aSn : Nat} {m : Sw.Mkt}
end
end Go.Proofs.YtnnoiagommiapaaGreat
namespace Go.Proofs.YtnnoiagommiapaaGreat
open Go.RowKit Go
set_option maxHeartbeats 4000000
theorem MOk_len {m : Sw.Mkt} {rows : List Sw.Row} (h : Sw.MOk m rows) : m.log.length ≤ 40 ∧ m.purses.length = 5 ∧ m.deals.length ≤ 8 ∧ m.nums.length = 5 ∧ m.said.length = 5 :=
 ⟨(Sw.ownFold_some.1 h.fold).1, (Sw.monOk_iff.1 h.mon).1, h.dlen, h.nlen, h.slen⟩
set_option maxHeartbeats 8000000
def Boxd (l : Nat) (wx : World) (g lo : Nat) (aL : Option Addr) (aLc aLn : Nat) (aP : Option Addr) (aPc aPn : Nat) (aD : Option Addr) (aDc aDn : Nat) (aN : Option Addr) (aNc aNn : Nat) (aS : Option Addr) (aSc aSn : Nat) (m : Sw.Mkt) (τ : Nat → Nat) : Prop :=
 MktAt wx g 0 aL aLc aLn aP aPc aPn aD aDc aDn aN aNc aNn aS aSc aSn m.clock ∧ OwM τ wx lo aL aLc aLn aP aPc aPn aD aDc aDn aN aNc aNn aS aSc aSn m ∧ l ≤ g ∧ l ≤ lo ∧ (∀ b, wx.heap.size ≤ b → τ b = 0) ∧ ¬ SM lo τ g
set_option maxHeartbeats 4000000
theorem l21AnyReq_c (rb P : Nat) (aL : Option Addr) (aLc aLn : Nat) (aP : Option Addr) (aPc aPn : Nat) (aD : Option Addr) (aDc aDn : Nat) (aN : Option Addr) (aNc aNn : Nat) (aS : Option Addr) (aSc aSn : Nat) (m : Sw.Mkt) (rows : List Sw.Row) (n : Int) (w : World) (hr : Rdp w rb P) (hok : Sw.MOk m rows) (hM : RM w (rb + 1) aL aLc aLn aP aPc aPn aD aDc aDn aN aNc aNn aS aSc aSn m) (hP : P ≤ 800000) (h1 : 1 ≤ n) (h2 : n ≤ 1000000) : Calls Tryz.prog 196 #[.pointer (some ⟨rb, 0, none⟩), .agg #[.slice aL aLn aLc, .slice aP aPn aPc, .slice aD aDn aDc, .int .i64 m.clock, .slice aN aNn aNc, .slice aS aSn aSc], .int .i64 n] w fun E w' => ∃ p q r s t u, E = .returned (.agg #[.int .i64 p, .int .i64 q, .int .i64 r, .int .i64 s, .int .i64 t, .int .i64 u]) ∧ Rdp w' rb (P + 60) ∧ Ch (· = rb) w w' := by
 have hlt := hr.lt
 have HO := Lib.hid hok
 clear hok
 go_enter Tryz.func196, Tryz.ntmps196
 go_wp2_with fail
 apply Calls.mono
 apply (l21Req_c (m := m) (rows := rows))
 · apply Rdp.keep hr; (exact kb_)
 · exact HO.out
 · exact (hM.keep kf_).less (by omega)
 · omega
 rintro E w1 ⟨p, q, r, s, t, u, rfl, hrd, hb⟩
 (obtain ⟨hc, hf, hz⟩ := xd hb)
 go_upto_region 2 with fail
 (refine wn_ fun W0 hb0 hc0 hf0 hz0 => ?_)
 obtain ⟨g, hgg⟩ : ∃ g, g = w1.heap.size := ⟨_, rfl⟩
 have hI : Ints W0 g 6 := Ints.ch hb0 (fun h => h) (by rw [hgg]; exact Ints.new (zs := [_, _, _, _, _, _]) rfl rfl rfl)
 have hR : Ints W0 (w.heap.size + 1) 6 := (by (repeat (first | with_reducible assumption | exact Ints.new (zs := [_, _, _, _, _, _]) (by first | with_reducible rfl | omega | (simp only [zq_]; done) | (simp only [zq_]; omega)) rfl rfl | exact Ints.new (zs := [_, _, _]) (by first | with_reducible rfl | omega | (simp only [zq_]; done) | (simp only [zq_]; omega)) rfl rfl | exact Ints.new (zs := [_, _, _, _]) (by first | with_reducible rfl | omega | (simp only [zq_]; done) | (simp only [zq_]; omega)) rfl rfl | with_reducible apply Ints.alloc | with_reducible apply Ints.drew | (with_reducible refine Ints.set ?_ rfl) | (with_reducible refine Ints.ch (by assumption) (by first | exact (fun h => h) | omega | (simp only [zq_]; omega)) ?_))))
 have HK : RdCh w W0 rb (P + 40) := ⟨Rdp.keep hrd (by (exact kb_)), ext_⟩
 have hg0 : w.heap.size + 2 ≤ g := by rw [hgg]; exact sz_
 rw [← hgg]
 clear hgg hrd hb hc hf hz hb0 hc0 hf0 hz0 hM
 ((repeat (rename Ch _ _ _ => zz; clear zz)); (repeat (rename Rdp _ _ _ => zz; clear zz)); (repeat (rename (∀ (b o : Nat), ¬ ((⟨b, 0, none⟩ : Addr) = ⟨b - _ + _, 0, none⟩) → _) => zz; clear zz)))
 have hrd := HK.rd
 have hb := HK.ch
 have hgr : g ≠ rb := by omega
 have hgS := hI.lt
 obtain ⟨ci0, hci0⟩ := hI.at_ (i := 0) (by omega); obtain ⟨ci1, hci1⟩ := hI.at_ (i := 1) (by omega); obtain ⟨ci2, hci2⟩ := hI.at_ (i := 2) (by omega); obtain ⟨ci3, hci3⟩ := hI.at_ (i := 3) (by omega); obtain ⟨ci4, hci4⟩ := hI.at_ (i := 4) (by omega); obtain ⟨ci5, hci5⟩ := hI.at_ (i := 5) (by omega); have hcif := hI.free
 obtain ⟨cr0, hcr0⟩ := hR.at_ (i := 0) (by omega); obtain ⟨cr1, hcr1⟩ := hR.at_ (i := 1) (by omega); obtain ⟨cr2, hcr2⟩ := hR.at_ (i := 2) (by omega); obtain ⟨cr3, hcr3⟩ := hR.at_ (i := 3) (by omega); obtain ⟨cr4, hcr4⟩ := hR.at_ (i := 4) (by omega); obtain ⟨cr5, hcr5⟩ := hR.at_ (i := 5) (by omega); have hcrf := hR.free
 go_wp2_with fail
 apply Calls.mono
 apply odd_c
 · exact hrd
 · omega
 · exact h1
 · exact h2
 rintro E w2 ⟨b, rfl, hrd, hb⟩
 (obtain ⟨hc, hf, hz⟩ := xd hb)
 cases b
 case false =>
   go_wp2_with fail
   refine bodyPost_ret (v := .agg #[.int .i64 ci0, .int .i64 ci1, .int .i64 ci2, .int .i64 ci3, .int .i64 ci4, .int .i64 ci5]) (by simp [results, Tryz.results196, go_sem, *]) rfl ?_
   exact ⟨_, _, _, _, _, _, rfl, (Rdp.keep hrd (by (exact kb_))).more (by omega), ext_⟩
 case true =>
   go_upto_block 0 with (go_at_call 92; apply Calls.mono; apply pick_c; (apply Rdp.keep; assumption; (exact kb_)); (first | assumption | omega); (first | assumption | omega); rintro E w1 ⟨v, rfl, ⟨hv0, hv1⟩, hrd, hb⟩; obtain ⟨hc, hf, hz⟩ := xd hb)
   go_cut [] (fun wx => DrawAt w wx rb (w.heap.size + 1) g 6 (P + 50))
   case first =>
     go_wp2_with (first | (go_at_call 92; apply Calls.mono; apply (pickLit (fun _ => True)); (apply Rdp.keep; assumption; (exact kb_)); omega; (first | rfl | (simp; done)); (repeat (first | exact LitQ.nil | (refine LitQ.cons ⟨_, rfl, (by first | exact trivial | omega)⟩ ?_))); omega; (first | omega | (simp only [zq_]; omega)); rintro E w1 ⟨v, x, rfl, hv, hq, hcx, hrd, hb⟩; (try simp only [zq_] at hcx); obtain ⟨hc, hf, hz⟩ := xd hb) | (go_at_call 92; apply Calls.mono; apply pick_c; (apply Rdp.keep; assumption; (exact kb_)); (first | assumption | omega); (first | assumption | omega); rintro E w1 ⟨v, rfl, ⟨hv0, hv1⟩, hrd, hb⟩; obtain ⟨hc, hf, hz⟩ := xd hb) | fail)
     all_goals go_meet
     all_goals exact ⟨by (repeat (first | with_reducible assumption | exact Ints.new (zs := [_, _, _, _, _, _]) (by first | with_reducible rfl | omega | (simp only [zq_]; done) | (simp only [zq_]; omega)) rfl rfl | exact Ints.new (zs := [_, _, _]) (by first | with_reducible rfl | omega | (simp only [zq_]; done) | (simp only [zq_]; omega)) rfl rfl | exact Ints.new (zs := [_, _, _, _]) (by first | with_reducible rfl | omega | (simp only [zq_]; done) | (simp only [zq_]; omega)) rfl rfl | with_reducible apply Ints.alloc | with_reducible apply Ints.drew | (with_reducible refine Ints.set ?_ rfl) | (with_reducible refine Ints.ch (by assumption) (by first | exact (fun h => h) | omega | (simp only [zq_]; omega)) ?_))), by (repeat (first | with_reducible assumption | exact Ints.new (zs := [_, _, _, _, _, _]) (by first | with_reducible rfl | omega | (simp only [zq_]; done) | (simp only [zq_]; omega)) rfl rfl | exact Ints.new (zs := [_, _, _]) (by first | with_reducible rfl | omega | (simp only [zq_]; done) | (simp only [zq_]; omega)) rfl rfl | exact Ints.new (zs := [_, _, _, _]) (by first | with_reducible rfl | omega | (simp only [zq_]; done) | (simp only [zq_]; omega)) rfl rfl | with_reducible apply Ints.alloc | with_reducible apply Ints.drew | (with_reducible refine Ints.set ?_ rfl) | (with_reducible refine Ints.ch (by assumption) (by first | exact (fun h => h) | omega | (simp only [zq_]; omega)) ?_))), Rdp.more (Rdp.keep (by assumption) (by (exact kb_))) (by omega), ext_⟩
   case rest =>
     ((repeat (rename Ch _ _ _ => zz; clear zz)); (repeat (rename Rdp _ _ _ => zz; clear zz)); (repeat (rename (∀ (b o : Nat), ¬ ((⟨b, 0, none⟩ : Addr) = ⟨b - _ + _, 0, none⟩) → _) => zz; clear zz)))
     clear hI hR ci0 ci1 ci2 ci3 ci4 ci5 hci0 hci1 hci2 hci3 hci4 hci5 hcif cr0 cr1 cr2 cr3 cr4 cr5 hcr0 hcr1 hcr2 hcr3 hcr4 hcr5 hcrf
     obtain ⟨own, res, rd, hbx⟩ := hcut
     obtain ⟨o0, ho0⟩ := own.at_ (i := 0) (by omega); obtain ⟨o1, ho1⟩ := own.at_ (i := 1) (by omega); obtain ⟨o2, ho2⟩ := own.at_ (i := 2) (by omega); obtain ⟨o3, ho3⟩ := own.at_ (i := 3) (by omega); obtain ⟨o4, ho4⟩ := own.at_ (i := 4) (by omega); obtain ⟨o5, ho5⟩ := own.at_ (i := 5) (by omega); have hof := own.free
     obtain ⟨r0, hr0⟩ := res.at_ (i := 0) (by omega); obtain ⟨r1, hr1⟩ := res.at_ (i := 1) (by omega); obtain ⟨r2, hr2⟩ := res.at_ (i := 2) (by omega); obtain ⟨r3, hr3⟩ := res.at_ (i := 3) (by omega); obtain ⟨r4, hr4⟩ := res.at_ (i := 4) (by omega); obtain ⟨r5, hr5⟩ := res.at_ (i := 5) (by omega); have hrf := res.free
     go_wp2_with fail
     refine bodyPost_ret (v := .agg #[.int .i64 o0, .int .i64 o1, .int .i64 o2, .int .i64 o3, .int .i64 o4, .int .i64 o5]) (by simp [results, Tryz.results196, go_sem, *]) rfl ?_
     exact ⟨_, _, _, _, _, _, rfl, (Rdp.keep rd (by (exact kb_))).more (by omega), ext_⟩
set_option maxHeartbeats 4000000
end Go.Proofs.YtnnoiagommiapaaGreat
