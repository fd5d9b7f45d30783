/- Texts joined: DrW, DrZ. -/
import Derived.Test.YtnnoiagommiapaaGreatPy44
import Derived.Test.YtnnoiagommiapaaGreatPy49
import Derived.Test.YtnnoiagommiapaaGreatPy27
import Derived.Test.YtnnoiagommiapaaGreatPy7
import Derived.Test.YtnnoiagommiapaaGreatPy9
import Derived.Deep.DeepCutAuto
set_option maxRecDepth 100000
set_option linter.unusedSimpArgs false
set_option linter.unusedVariables false
namespace Go.Proofs.YtnnoiagommiapaaGreat
open Go.RowKit Go
set_option maxHeartbeats 4000000
theorem el_V : ElemOk Tryz.prog 59 51 10 80 := .mk' (z := .agg #[.int .i64 0, .int .i64 0, .int .i64 0, .int .i64 0, .int .i64 0, .int .i64 0, .int .i64 0, .int .i64 0, .int .i64 0, .int .i64 0]) Tryz.underlying59 (by kernel_rfl) rfl (by omega)
theorem one_V (x : Sw.Ev) : ∀ u ∈ x.enc, u.oneCell' = true := by simp [Sw.Ev.enc, Value.oneCell']
abbrev OwV := Ow Sw.Ev.enc 10 51
set_option maxHeartbeats 8000000 in
theorem l21Plays_c (rb P : Nat) (aF : Option Addr) (aFc aFn : Nat) (aL : Option Addr) (aLc aLn : Nat) (aP : Option Addr) (aPc aPn : Nat) (aD : Option Addr) (aDc aDn : Nat) (aN : Option Addr) (aNc aNn : Nat) (aS : Option Addr) (aSc aSn : Nat) (aI : Option Addr) (aIc aIn : Nat) (aG : Option Addr) (aGc aGn : Nat) (aB : Option Addr) (aBc aBn : Nat) (x : Sw.World) (n : Int) (lo : Nat) (w : World) (hr : Rdp w rb P) (hok : Sw.WOk x) (hW : RW w lo aF aFc aFn aL aLc aLn aP aPc aPn aD aDc aDn aN aNc aNn aS aSc aSn aI aIc aIn aG aGc aGn aB aBc aBn x) (hP : P ≤ 100000) (hl0 : rb < lo) (hl1 : lo ≤ w.heap.size) (hn : n ≤ 120) : Calls Tryz.prog 91 #[.pointer (some ⟨rb, 0, none⟩), .agg #[.slice aF aFn aFc, .slice aL aLn aLc, .slice aP aPn aPc, .slice aD aDn aDc, .int .i64 x.market.clock, .slice aN aNn aNc, .slice aS aSn aSc, .slice aI aIn aIc, .slice aG aGn aGc, .slice aB aBn aBc], .int .i64 n] w fun E w' => ∃ (V : Option Addr) (Vc Vn : Nat) (es : List Sw.Ev) (bF : Option Addr) (bFc bFn : Nat) (bL : Option Addr) (bLc bLn : Nat) (bP : Option Addr) (bPc bPn : Nat) (bD : Option Addr) (bDc bDn : Nat) (bN : Option Addr) (bNc bNn : Nat) (bS : Option Addr) (bSc bSn : Nat) (bI : Option Addr) (bIc bIn : Nat) (bG : Option Addr) (bGc bGn : Nat) (bB : Option Addr) (bBc bBn : Nat) (z : Sw.World), E = .returned (.tuple #[.slice V Vn Vc, .agg #[.slice bF bFn bFc, .slice bL bLn bLc, .slice bP bPn bPc, .slice bD bDn bDc, .int .i64 z.market.clock, .slice bN bNn bNc, .slice bS bSn bSc, .slice bI bIn bIc, .slice bG bGn bGc, .slice bB bBn bBc]]) ∧ OwV w' w.heap.size V Vc Vn es ∧ Vn ≤ 120 ∧ RW w' lo bF bFc bFn bL bLc bLn bP bPc bPn bD bDc bDn bN bNc bNn bS bSc bSn bI bIc bIn bG bGc bGn bB bBc bBn z ∧ Sw.WOk z ∧ Rdp w' rb (P + 12000) ∧ Ch (· = rb) w w' := by
 have hlt := hr.lt
 have HW := Lib.hid (Held2.mk hW (kR lo w))
 have HO := Lib.hid hok
 have HR := Lib.hid hr
 clear hW hok hr
 go_enter Tryz.func91, Tryz.ntmps91
 go_wp2_with fail
 go_loopw [8, 9] (fun v k wr => ∃ (V : Option Addr) (Vc : Nat) (es : List Sw.Ev) (kk lo' : Nat) (wb : World) (bF : Option Addr) (bFc bFn : Nat) (bL : Option Addr) (bLc bLn : Nat) (bP : Option Addr) (bPc bPn : Nat) (bD : Option Addr) (bDc bDn : Nat) (bN : Option Addr) (bNc bNn : Nat) (bS : Option Addr) (bSc bSn : Nat) (bI : Option Addr) (bIc bIn : Nat) (bG : Option Addr) (bGc bGn : Nat) (bB : Option Addr) (bBc bBn : Nat) (y : Sw.World), v = .slice V kk Vc ∧ k = .int .i64 kk ∧ kk ≤ 120 ∧
   OwV wr (w.heap.size + 2) V Vc kk es ∧ Ch (· = rb) w wr ∧ Rdp wr rb (P + 100 * kk) ∧ WAt wr w.heap.size bF bFc bFn bL bLc bLn bP bPc bPn bD bDc bDn bN bNc bNn bS bSc bSn bI bIc bIn bG bGc bGn bB bBc bBn y.market.clock ∧ WAt wr (w.heap.size + 1) none 0 0 none 0 0 none 0 0 none 0 0 none 0 0 none 0 0 none 0 0 none 0 0 none 0 0 0 ∧ Sw.WOk y ∧ Held2 wb lo' wr bF bFc bFn bL bLc bLn bP bPc bPn bD bDc bDn bN bNc bNn bS bSc bSn bI bIc bIn bG bGc bGn bB bBc bBn y ∧ lo ≤ lo' ∧
   (w.heap.size + 1 < lo' ∨ wb.heap.size ≤ w.heap.size) ∧ (∀ a, V = some a → a.block < lo' ∨ wb.heap.size ≤ a.block)) (fun _ k _ => 120 - (intOf k).toNat)
 case atStart =>
   refine ⟨_, _, [], 0, lo, w, aF, aFc, aFn, aL, aLc, aLn, aP, aPc, aPn, aD, aDc, aDn, aN, aNc, aNn, aS, aSc, aSn, aI, aIc, aIn, aG, aGc, aGn, aB, aBc, aBn, x, rfl, rfl, by omega, ?_, ext_, ?_, ⟨sz_, co_, co_, co_, co_, co_, co_, co_, co_, co_, co_, fun i => co_⟩, ⟨sz_, co_, co_, co_, co_, co_, co_, co_, co_, co_, co_, fun i => co_⟩, HO.out, ⟨HW.out.rd, kf_⟩, Nat.le_refl _, .inr (Nat.le_refl _), fun a ha => ?_⟩
   · (refine own_)
   · exact (Rdp.keep HR.out kb_).more (by omega)
   · cases ha; exact .inr sz_
 case round =>
   obtain ⟨V, Vc, es, kk, lo', wb, bF, bFc, bFn, bL, bLc, bLn, bP, bPc, bPn, bD, bDc, bDn, bN, bNc, bNn, bS, bSc, bSn, bI, bIc, bIn, bG, bGc, bGn, bB, bBc, bBn, y, rfl, rfl, hkk, hV, hb, hrd, hA, hZ, hok, hH, hll, hbox, hva⟩ := hrel
   have hst := xc hb
   obtain ⟨hcr, hfr, hzr⟩ := hst
   clear hcr hfr
   obtain ⟨hgl, c0, c1, c2, c3, c4, c5, c6, c7, c8, c9, cf⟩ := hA
   obtain ⟨hgz, z0, z1, z2, z3, z4, z5, z6, z7, z8, z9, zf⟩ := hZ
   have hwb := hH.kf.size
   have HH := Lib.hid hH
   have HY := Lib.hid hok
   have hb2 : bGn = 2 := by have h1 := hH.rd.gates.len.1; have h2 := hok.glen; omega
   have hn2 := wok_size hH.rd hok
   have HVA := Lib.hid hva
   clear hH hok hva
   subst hb2
   have h22 : ((2 : Int) == 2) = true := rfl
   have hlb : rb < lo' := by omega
   by_cases hgo : (kk : Int) < n
   · have hk1 : kk < 120 := by omega
     go_upto_region 6 with (go_at_call 131; apply Calls.mono; apply (l21Event_c (x := y)); (apply Rdp.keep; assumption; (exact kb_)); exact HY.out; (exact (HH.out.rw_.keep kf_).less (by omega)); omega; rintro E w1 ⟨e, rfl, hrd, hb⟩; (obtain ⟨hc, hf, hz⟩ := xd hb))
     go_upto_region 7 with ((at_builtin; apply wpList_app (lo := w.heap.size + 2) el_V one_V rfl rfl rfl rfl; (first | assumption | exact Ow.nil _ _ | (apply Ow.keep; assumption; exact kf_) | (refine own_)); (first | (refine Rs.new [e] (by (first | rfl | (simp only [zq_]; done) | omega)) rfl rfl (fun _ => rfl) (by omega))); omega; exact sz_; intro A1 c1 w2 ho1 hch1 hat1 hex1 hlow1; have hb := hex1 (· = rb) w (by exact ext_) (by omega); have hrd := Rdp.low (Rdp.keep (by assumption) (by exact kb_)) hch1.size hlow1 (by omega); have hz := hch1.size; (try simp only [zq_] at hz); obtain ⟨hc, hf⟩ := low_rules hlow1; clear hex1); obtain ⟨hC0, hG0⟩ := Ch.atA_keep hch1 (g := w1.heap.size) (by exact sz_) (fun a ha => by have := (hV.blk ha).2; omega))
     have hH7 : KF lo' wb w2 := KF.ch hch1 (KF.trans HH.out.kf (by exact kf_)) (fun i ⟨a, ha, e⟩ => by have := HVA.out a ha; omega)
     have hRW7 := HH.out.rd.keep hH7
     (refine wn_ fun W0 hb0 hc0 hf0 hz0 => ?_)
     have p0 : W0.cell? ⟨w.heap.size, 0, none⟩ = some (.slice bF bFn bFc) := (co_); have p1 : W0.cell? ⟨w.heap.size, 1, none⟩ = some (.slice bL bLn bLc) := (co_); have p2 : W0.cell? ⟨w.heap.size, 2, none⟩ = some (.slice bP bPn bPc) := (co_); have p3 : W0.cell? ⟨w.heap.size, 3, none⟩ = some (.slice bD bDn bDc) := (co_); have p4 : W0.cell? ⟨w.heap.size, 4, none⟩ = some (.int .i64 y.market.clock) := (co_); have p5 : W0.cell? ⟨w.heap.size, 5, none⟩ = some (.slice bN bNn bNc) := (co_); have p6 : W0.cell? ⟨w.heap.size, 6, none⟩ = some (.slice bS bSn bSc) := (co_); have p7 : W0.cell? ⟨w.heap.size, 7, none⟩ = some (.slice bI bIn bIc) := (co_); have p8 : W0.cell? ⟨w.heap.size, 8, none⟩ = some (.slice bG 2 bGc) := (co_); have p9 : W0.cell? ⟨w.heap.size, 9, none⟩ = some (.slice bB bBn bBc) := (co_)
     have hrd7 := hrd.keep (show KB rb w2 W0 from kb_)
     have hcq : Ch (· = rb) w W0 := ext_
     have hzq : w.heap.size + 2 ≤ W0.heap.size := sz_
     have hz27 : w2.heap.size ≤ W0.heap.size := sz_
     have e0 : W0.cell? ⟨w1.heap.size, 0, none⟩ = some (.int .i64 e.kind) := (co_); have e1 : W0.cell? ⟨w1.heap.size, 1, none⟩ = some (.int .i64 e.req.user) := (co_); have e2 : W0.cell? ⟨w1.heap.size, 2, none⟩ = some (.int .i64 e.req.n) := (co_); have e3 : W0.cell? ⟨w1.heap.size, 3, none⟩ = some (.int .i64 e.req.kind) := (co_); have e4 : W0.cell? ⟨w1.heap.size, 4, none⟩ = some (.int .i64 e.req.ticket) := (co_); have e5 : W0.cell? ⟨w1.heap.size, 5, none⟩ = some (.int .i64 e.req.who) := (co_); have e6 : W0.cell? ⟨w1.heap.size, 6, none⟩ = some (.int .i64 e.req.price) := (co_); have e7 : W0.cell? ⟨w1.heap.size, 7, none⟩ = some (.int .i64 e.at_) := (co_); have e8 : W0.cell? ⟨w1.heap.size, 8, none⟩ = some (.int .i64 e.ticket) := (co_); have e9 : W0.cell? ⟨w1.heap.size, 9, none⟩ = some (.int .i64 e.who) := (co_)
     (focus (refine wn_ fun W0 hb0 hc0 hf0 hz0 => ?_; refine wp_regionX [] (S := fun w' => HeldR (w.heap.size) W0 w') hdQ (fun hHeld => ?_); refine GoesX.take 2 33 [] hHeld (h := ?_); refine GoesX.one 0 (h := fun K hK => ?_); go_simp; refine outS hK hdQ (h := ?_); clear hK K hHeld; intro hHeld; refine GoesX.one 1 (h := fun K hK => ?_); go_simp; (go_at_call 64; apply Calls.mono; apply (sWldCopy_c (x := y)); (apply RW.at0 hRW7; (exact kf_)); exact hn2; rintro E w7 ⟨dF, dFc, dFn, dL, dLc, dLn, dP, dPc, dPn, dD, dDc, dDn, dN, dNc, dNn, dS, dSc, dSn, dI, dIc, dIn, dG, dGc, dGn, dB, dBc, dBn, τ7, rfl, ho7, hb⟩; obtain ⟨hc, hf, hz⟩ := xy hb); (try go_wp2_with fail); refine outS hK hdQ (h := ?_); clear hK K hHeld; intro hHeld; refine GoesX.one 3 (h := fun K hK => ?_); go_simp; (go_at_call 63; apply Calls.mono; apply (sStep_c (x := y) (e := e) (τ := τ7)); (exact ho7.keepF kf_); (exact Sw.wldOk_iff.2 HY.out); (exact sz_); rintro E w6 ⟨fF, fFc, fFn, fL, fLc, fLn, fP, fPc, fPn, fD, fDc, fDn, fN, fNc, fNn, fS, fSc, fSn, fI, fIc, fIn, fG, fGc, fGn, fB, fBc, fBn, rfl, hrw, hup⟩; have hr6 := hrw w6 (Ch.refl _ _); have hb : Ex W0 w6 := Ch.trans' (by exact ext_) hup (fun i hi h => (by have h1 := h.1; (try simp only [zq_] at h1); omega)); clear hrw hup; obtain ⟨hc, hf, hz⟩ := xy hb); (try go_wp2_with fail); refine outS hK hdQ (h := ?_); clear hK K hHeld; intro hHeld; refine GoesX.take 4 30 [] hHeld (h := ?_); refine GoesX.take 5 35 [] hHeld (h := ?_); refine GoesX.take 6 36 [] hHeld (h := ?_); refine GoesX.one 7 (h := fun K hK => ?_); go_simp; refine outS hK hdQ (h := ?_); clear hK K hHeld; intro hHeld; refine GoesX.done (by kernel_rfl) ?_ _; all_goals (have hb := And.right (by assumption : HeldR (w.heap.size) W0 _); obtain ⟨hc, hf, hz⟩ := xd hb)))
     all_goals go_wp2_with fail
     all_goals go_roundw
     repeat (case measure => (simp [intOf]; omega))
     all_goals
       have hV1 : OwV w6 (w.heap.size + 2) A1 c1 (kk + 1) (es ++ [e]) := ho1.keep kf_
       refine ⟨A1, c1, es ++ [e], kk + 1, _, w6, fF, fFc, fFn, fL, fLc, fLn, fP, fPc, fPn, fD, fDc, fDn, fN, fNc, fNn, fS, fSc, fSn, fI, fIc, fIn, fG, fGc, fGn, fB, fBc, fBn, (Sw.step y e).1, rfl, by go_num, by omega, ?_, ext_, ?_, ⟨sz_, co_, co_, co_, co_, co_, co_, co_, co_, co_, co_, fun i => co_⟩, ⟨sz_, co_, co_, co_, co_, co_, co_, co_, co_, co_, co_, fun i => co_⟩, Sw.step_ok HY.out e, ⟨hr6, kf_⟩, sz_, .inl sz_, fun a ha => .inl ?_⟩
       · exact hV1.keep kf_
       · exact (Rdp.keep hrd7 kb_).more (by omega)
       · have := (ho1.blk ha).2; exact sz_
   · have hgo' : ¬ (kk : Int) < n := hgo
     have hgod : decide ((kk : Int) < n) = false := decide_eq_false hgo
     go_upto_region 8 with fail
     (focus (refine wn_ fun W0 hb0 hc0 hf0 hz0 => ?_; refine wp_regionX [] (S := fun w' => HeldR (w.heap.size + 1) W0 w') hdQ (fun hHeld => ?_); refine GoesX.take 0 37 [] hHeld (h := ?_); refine GoesX.take 1 38 [] hHeld (h := ?_); refine GoesX.take 2 6 [] hHeld (h := ?_); refine GoesX.one 3 (h := fun K hK => ?_); go_simp; refine outS hK hdQ (h := ?_); clear hK K hHeld; intro hHeld; refine GoesX.done (by kernel_rfl) ?_ _; all_goals (have hb := And.right (by assumption : HeldR (w.heap.size + 1) W0 _); obtain ⟨hc, hf, hz⟩ := xd hb)))
     all_goals have hk8 : KF lo' wb W0 := KF.trans HH.out.kf (by exact kf_)
     all_goals go_wp2_with fail
     all_goals refine bodyPost_ret (v := .tuple #[.slice V kk Vc, .agg #[.slice bF bFn bFc, .slice bL bLn bLc, .slice bP bPn bPc, .slice bD bDn bDc, .int .i64 y.market.clock, .slice bN bNn bNc, .slice bS bSn bSc, .slice bI bIn bIc, .slice bG 2 bGc, .slice bB bBn bBc]]) (by simp [results, Tryz.results91, go_sem, *]) rfl ?_
     all_goals exact ⟨V, Vc, kk, es, bF, bFc, bFn, bL, bLc, bLn, bP, bPc, bPn, bD, bDc, bDn, bN, bNc, bNn, bS, bSc, bSn, bI, bIc, bIn, bG, bGc, 2, bB, bBc, bBn, y, rfl, (hV.keep kf_).less sz_, hkk, (HH.out.rd.keep (by with_reducible repeat (first | exact hk8 | apply kD | (refine kS ?_ (by show w.heap.size + 1 < lo' ∨ wb.heap.size ≤ w.heap.size + 1; omega))))).less hll, HY.out, (Rdp.keep hrd kb_).more (by omega), ext_⟩
set_option maxHeartbeats 4000000
def sel3V (v : Nat) (a b c : Value) : Value := if v = 0 then a else if v = 1 then b else c
theorem sel3V_cell {v : Nat} (h : v < 3) (W : World) (a b c : Value) (T : TypeId) : (W.alloc (.cells #[a, b, c] T)).cell? ⟨W.heap.size, v, none⟩ = some (sel3V v a b c) := by
 rcases (show v = 0 ∨ v = 1 ∨ v = 2 by omega) with rfl | rfl | rfl <;> simp [go_sem, sel3V]
theorem l21First_c (rb P : Nat) (w : World) (hr : Rdp w rb P) (hP : P ≤ 900000) : Calls Tryz.prog 172 #[.pointer (some ⟨rb, 0, none⟩)] w fun E w' => ∃ A c xs, E = .returned (.slice A 5 c) ∧ OwI w' w.heap.size A c 5 xs ∧ Sw.newOk xs = true ∧ Rdp w' rb (P + 1) ∧ Ch (· = rb) w w' := by
 have hlt := hr.lt
 go_enter Tryz.func172, Tryz.ntmps172
 go_wp2_with (go_at_call 92; apply Calls.mono; apply (pickN_c (N := 3)); (apply Rdp.keep; assumption; (exact kb_)); omega; rfl; decide; rintro E w5 ⟨v5, rfl, hv5, hrd, hb⟩; have hsel := sel3V_cell hv5; have hv5i : (v5 : Int) < 3 := (by omega); (obtain ⟨hc, hf, hz⟩ := xd hb))
 have o0 : OwI  (w.alloc (.cells #[.int .i64 0, .int .i64 100, .int .i64 100, .int .i64 300, .int .i64 50] 3)) w.heap.size (some ⟨w.heap.size, 0, none⟩) 5 5 [0, 100, 100, 300, 50] := Ow.new (enc := encI) (sz := 1) [0, 100, 100, 300, 50] (by simp) rfl rfl (fun _ => rfl) (by omega) (by decide)
 have o1 : OwI  ((w.alloc (.cells #[.int .i64 0, .int .i64 100, .int .i64 100, .int .i64 300, .int .i64 50] 3)).alloc (.cells #[.int .i64 10, .int .i64 60, .int .i64 60, .int .i64 60, .int .i64 60] 3)) w.heap.size (some ⟨w.heap.size + 1, 0, none⟩) 5 5 [10, 60, 60, 60, 60] := Ow.new (enc := encI) (sz := 1) [10, 60, 60, 60, 60] (by simp) rfl rfl (fun _ => rfl) (by omega) (by decide)
 have o2 : OwI  (((w.alloc (.cells #[.int .i64 0, .int .i64 100, .int .i64 100, .int .i64 300, .int .i64 50] 3)).alloc (.cells #[.int .i64 10, .int .i64 60, .int .i64 60, .int .i64 60, .int .i64 60] 3)).alloc (.cells #[.int .i64 0, .int .i64 1000, .int .i64 1000, .int .i64 1000, .int .i64 1000] 3)) w.heap.size (some ⟨w.heap.size + 1 + 1, 0, none⟩) 5 5 [0, 1000, 1000, 1000, 1000] := Ow.new (enc := encI) (sz := 1) [0, 1000, 1000, 1000, 1000] (by simp) rfl rfl (fun _ => rfl) (by omega) (by decide)
 rcases (show v5 = 0 ∨ v5 = 1 ∨ v5 = 2 by omega) with rfl | rfl | rfl
 · go_ret
   exact ⟨_, _, _, rfl, o0.keep kf_, (by decide +kernel), hrd, ext_⟩
 · go_ret
   exact ⟨_, _, _, rfl, o1.keep kf_, (by decide +kernel), hrd, ext_⟩
 · go_ret
   exact ⟨_, _, _, rfl, o2.keep kf_, (by decide +kernel), hrd, ext_⟩
theorem new_wok {p : List Int} (h : Sw.newOk p = true) : Sw.WOk (Sw.wldNew p) := by
 simp only [Sw.newOk, Bool.and_eq_true, decide_eq_true_eq] at h
 exact Sw.wldNew_ok h.1 h.2
theorem l21World_c (rb P : Nat) (w : World) (hr : Rdp w rb P) (hP : P ≤ 80000) : Calls Tryz.prog 90 #[.pointer (some ⟨rb, 0, none⟩)] w fun E w' => ∃ (bF : Option Addr) (bFc bFn : Nat) (bL : Option Addr) (bLc bLn : Nat) (bP : Option Addr) (bPc bPn : Nat) (bD : Option Addr) (bDc bDn : Nat) (bN : Option Addr) (bNc bNn : Nat) (bS : Option Addr) (bSc bSn : Nat) (bI : Option Addr) (bIc bIn : Nat) (bG : Option Addr) (bGc bGn : Nat) (bB : Option Addr) (bBc bBn : Nat) (z : Sw.World), E = .returned (.agg #[.slice bF bFn bFc, .slice bL bLn bLc, .slice bP bPn bPc, .slice bD bDn bDc, .int .i64 z.market.clock, .slice bN bNn bNc, .slice bS bSn bSc, .slice bI bIn bIc, .slice bG bGn bGc, .slice bB bBn bBc]) ∧ RW w' w.heap.size bF bFc bFn bL bLc bLn bP bPc bPn bD bDc bDn bN bNc bNn bS bSc bSn bI bIc bIn bG bGc bGn bB bBc bBn z ∧ Sw.WOk z ∧ Rdp w' rb (P + 12010) ∧ Ch (· = rb) w w' := by
 have hlt := hr.lt
 go_enter Tryz.func90, Tryz.ntmps90
 go_wp2_with (first | (go_at_call 92; apply Calls.mono; apply (pickLit (fun x => x ≤ 80)); (apply Rdp.keep; assumption; (exact kb_)); omega; (first | rfl | (simp; done)); (repeat (first | exact LitQ.nil | (refine LitQ.cons ⟨_, rfl, (by first | exact trivial | omega)⟩ ?_))); omega; (first | omega | (simp only [zq_]; omega)); rintro E w1 ⟨v, x, rfl, hv, hq, hcx, hrd, hb⟩; (try simp only [zq_] at hcx); obtain ⟨hc, hf, hz⟩ := xd hb) | (go_at_call 92; apply Calls.mono; apply pick_c; (apply Rdp.keep; assumption; (exact kb_)); (first | assumption | omega); (first | assumption | omega); rintro E w1 ⟨v, rfl, ⟨hv0, hv1⟩, hrd, hb⟩; obtain ⟨hc, hf, hz⟩ := xd hb) | (go_at_call 172; apply Calls.mono; apply l21First_c; (apply Rdp.keep; assumption; (exact kb_)); omega; rintro E w2 ⟨A2, c2, xs2, rfl, hA2, hnew, hrd, hb⟩; (obtain ⟨hc, hf, hz⟩ := xd hb)) | (go_at_call 171; apply Calls.mono; apply (sWldNew_c (xs := xs2)); (apply Rs.at0 hA2.rs; (exact kf_)); rintro E w3 ⟨F, Fc, Fn, jL, jLc, jLn, jP, jPc, jPn, jD, jDc, jDn, jN, jNc, jNn, jS, jSc, jSn, G, Gc, Gn, τ3, rfl, hwn, hb⟩; obtain ⟨hc, hf, hz⟩ := xy hb) | (go_at_call 91; apply Calls.mono; apply (l21Plays_c (x := Sw.wldNew xs2) (lo := w.heap.size + 1)); (apply Rdp.keep; assumption; (exact kb_)); (exact new_wok hnew); (exact (hwn.rw_.keep kf_).less sz_); omega; omega; (exact sz_); omega; rintro E w5 ⟨V, Vc, Vn, es, fF, fFc, fFn, fL, fLc, fLn, fP, fPc, fPn, fD, fDc, fDn, fN, fNc, fNn, fS, fSc, fSn, fI, fIc, fIn, fG, fGc, fGn, fB, fBc, fBn, z, rfl, hV, hVn, hzr, hzok, hrd, hb⟩; (obtain ⟨hc, hf, hz⟩ := xd hb)))
 refine bodyPost_ret (v := .agg #[.slice fF fFn fFc, .slice fL fLn fLc, .slice fP fPn fPc, .slice fD fDn fDc, .int .i64 z.market.clock, .slice fN fNn fNc, .slice fS fSn fSc, .slice fI fIn fIc, .slice fG fGn fGc, .slice fB fBn fBc]) (by simp [results, Tryz.results90, go_sem, *]) rfl ?_
 exact ⟨fF, fFc, fFn, fL, fLc, fLn, fP, fPc, fPn, fD, fDc, fDn, fN, fNc, fNn, fS, fSc, fSn, fI, fIc, fIn, fG, fGc, fGn, fB, fBc, fBn, z, rfl, (hzr.keep kf_).less sz_, hzok, (Rdp.keep hrd kb_).more (by omega), ext_⟩
end Go.Proofs.YtnnoiagommiapaaGreat
