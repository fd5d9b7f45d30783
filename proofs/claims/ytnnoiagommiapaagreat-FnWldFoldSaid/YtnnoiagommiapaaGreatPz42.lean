/- Texts joined: DrawM, DrawN, WldC, WldD, FoldS. -/
import Derived.Test.YtnnoiagommiapaaGreatPz38
import Derived.Test.YtnnoiagommiapaaGreatPz3
import Derived.Test.YtnnoiagommiapaaGreatPz36
import Derived.Test.YtnnoiagommiapaaGreatPz37
import Derived.Test.YtnnoiagommiapaaGreatPz16
import Derived.Test.YtnnoiagommiapaaGreatPz35
import Derived.Test.YtnnoiagommiapaaGreatPz20
import Derived.Test.YtnnoiagommiapaaGreatPz11
import Derived.Deep.CutBlock
import Derived.Deep.DeepCutAuto
import Derived.Test.YtnnoiagommiapaaGreatPz15
import Derived.Test.YtnnoiagommiapaaGreatPz40
import Derived.Test.YtnnoiagommiapaaGreatPz28
import Derived.Test.YtnnoiagommiapaaGreatPz14
set_option maxRecDepth 100000
set_option linter.unusedSimpArgs false
set_option linter.unusedVariables false
namespace Go.Proofs.YtnnoiagommiapaaGreat
open Go.RowKit Go
set_option maxHeartbeats 8000000
def Boxd (l : Nat) (wx : World) (g lo : Nat) (aL : Option Addr) (aLc aLn : Nat) (aP : Option Addr) (aPc aPn : Nat) (aD : Option Addr) (aDc aDn : Nat) (aN : Option Addr) (aNc aNn : Nat) (aS : Option Addr) (aSc aSn : Nat) (m : Sw.Mkt) (τ : Nat → Nat) : Prop :=
 MktAt wx g 0 aL aLc aLn aP aPc aPn aD aDc aDn aN aNc aNn aS aSc aSn m.clock ∧ OwM τ wx lo aL aLc aLn aP aPc aPn aD aDc aDn aN aNc aNn aS aSc aSn m ∧ l ≤ g ∧ l ≤ lo ∧ (∀ b, wx.heap.size ≤ b → τ b = 0) ∧ ¬ SM lo τ g
set_option maxHeartbeats 4000000
theorem l21AnyReq_c (rb P : Nat) (aL : Option Addr) (aLc aLn : Nat) (aP : Option Addr) (aPc aPn : Nat) (aD : Option Addr) (aDc aDn : Nat) (aN : Option Addr) (aNc aNn : Nat) (aS : Option Addr) (aSc aSn : Nat) (m : Sw.Mkt) (rows : List Sw.Row) (n : Int) (w : World) (hr : Rdp w rb P) (hok : Sw.MOk m rows) (hM : RM w (rb + 1) aL aLc aLn aP aPc aPn aD aDc aDn aN aNc aNn aS aSc aSn m) (hP : P ≤ 800000) (h1 : 1 ≤ n) (h2 : n ≤ 1000000) : Calls Tryz.prog 196 #[.pointer (some ⟨rb, 0, none⟩), .agg #[.slice aL aLn aLc, .slice aP aPn aPc, .slice aD aDn aDc, .int .i64 m.clock, .slice aN aNn aNc, .slice aS aSn aSc], .int .i64 n] w fun E w' => ∃ p q r s t u, E = .returned (.agg #[.int .i64 p, .int .i64 q, .int .i64 r, .int .i64 s, .int .i64 t, .int .i64 u]) ∧ Rdp w' rb (P + 60) ∧ Ch (· = rb) w w' := by
 have hlt := hr.lt
 have HO := Lib.hid hok
 clear hok
 go_enter Tryz.func196, Tryz.ntmps196
 go_wp2_with fail
 apply Calls.mono
 apply (l21Req_c (m := m) (rows := rows))
 · apply Rdp.keep hr; (exact kb_)
 · exact HO.out
 · exact (hM.keep kf_).less (by omega)
 · omega
 rintro E w1 ⟨p, q, r, s, t, u, rfl, hrd, hb⟩
 (obtain ⟨hc, hf, hz⟩ := xd hb)
 go_upto_region 2 with fail
 (refine wn_ fun W0 hb0 hc0 hf0 hz0 => ?_)
 obtain ⟨g, hgg⟩ : ∃ g, g = w1.heap.size := ⟨_, rfl⟩
 have hI : Ints W0 g 6 := Ints.ch hb0 (fun h => h) (by rw [hgg]; exact Ints.new (zs := [_, _, _, _, _, _]) rfl rfl rfl)
 have hR : Ints W0 (w.heap.size + 1) 6 := (by (repeat (first | with_reducible assumption | exact Ints.new (zs := [_, _, _, _, _, _]) (by first | with_reducible rfl | omega | (simp only [zq_]; done) | (simp only [zq_]; omega)) rfl rfl | exact Ints.new (zs := [_, _, _]) (by first | with_reducible rfl | omega | (simp only [zq_]; done) | (simp only [zq_]; omega)) rfl rfl | exact Ints.new (zs := [_, _, _, _]) (by first | with_reducible rfl | omega | (simp only [zq_]; done) | (simp only [zq_]; omega)) rfl rfl | with_reducible apply Ints.alloc | with_reducible apply Ints.drew | (with_reducible refine Ints.set ?_ rfl) | (with_reducible refine Ints.ch (by assumption) (by first | exact (fun h => h) | omega | (simp only [zq_]; omega)) ?_))))
 have HK : RdCh w W0 rb (P + 40) := ⟨Rdp.keep hrd (by (exact kb_)), ext_⟩
 have hg0 : w.heap.size + 2 ≤ g := by rw [hgg]; exact sz_
 rw [← hgg]
 clear hgg hrd hb hc hf hz hb0 hc0 hf0 hz0 hM
 ((repeat (rename Ch _ _ _ => zz; clear zz)); (repeat (rename Rdp _ _ _ => zz; clear zz)); (repeat (rename (∀ (b o : Nat), ¬ ((⟨b, 0, none⟩ : Addr) = ⟨b - _ + _, 0, none⟩) → _) => zz; clear zz)))
 have hrd := HK.rd
 have hb := HK.ch
 have hgr : g ≠ rb := by omega
 have hgS := hI.lt
 obtain ⟨ci0, hci0⟩ := hI.at_ (i := 0) (by omega); obtain ⟨ci1, hci1⟩ := hI.at_ (i := 1) (by omega); obtain ⟨ci2, hci2⟩ := hI.at_ (i := 2) (by omega); obtain ⟨ci3, hci3⟩ := hI.at_ (i := 3) (by omega); obtain ⟨ci4, hci4⟩ := hI.at_ (i := 4) (by omega); obtain ⟨ci5, hci5⟩ := hI.at_ (i := 5) (by omega); have hcif := hI.free
 obtain ⟨cr0, hcr0⟩ := hR.at_ (i := 0) (by omega); obtain ⟨cr1, hcr1⟩ := hR.at_ (i := 1) (by omega); obtain ⟨cr2, hcr2⟩ := hR.at_ (i := 2) (by omega); obtain ⟨cr3, hcr3⟩ := hR.at_ (i := 3) (by omega); obtain ⟨cr4, hcr4⟩ := hR.at_ (i := 4) (by omega); obtain ⟨cr5, hcr5⟩ := hR.at_ (i := 5) (by omega); have hcrf := hR.free
 go_wp2_with fail
 apply Calls.mono
 apply odd_c
 · exact hrd
 · omega
 · exact h1
 · exact h2
 rintro E w2 ⟨b, rfl, hrd, hb⟩
 (obtain ⟨hc, hf, hz⟩ := xd hb)
 cases b
 case false =>
   go_wp2_with fail
   refine bodyPost_ret (v := .agg #[.int .i64 ci0, .int .i64 ci1, .int .i64 ci2, .int .i64 ci3, .int .i64 ci4, .int .i64 ci5]) (by simp [results, Tryz.results196, go_sem, *]) rfl ?_
   exact ⟨_, _, _, _, _, _, rfl, (Rdp.keep hrd (by (exact kb_))).more (by omega), ext_⟩
 case true =>
   go_upto_block 0 with (go_at_call 92; apply Calls.mono; apply pick_c; (apply Rdp.keep; assumption; (exact kb_)); (first | assumption | omega); (first | assumption | omega); rintro E w1 ⟨v, rfl, ⟨hv0, hv1⟩, hrd, hb⟩; obtain ⟨hc, hf, hz⟩ := xd hb)
   go_cut [] (fun wx => DrawAt w wx rb (w.heap.size + 1) g 6 (P + 50))
   case first =>
     go_wp2_with (first | (go_at_call 92; apply Calls.mono; apply (pickLit (fun _ => True)); (apply Rdp.keep; assumption; (exact kb_)); omega; (first | rfl | (simp; done)); (repeat (first | exact LitQ.nil | (refine LitQ.cons ⟨_, rfl, (by first | exact trivial | omega)⟩ ?_))); omega; (first | omega | (simp only [zq_]; omega)); rintro E w1 ⟨v, x, rfl, hv, hq, hcx, hrd, hb⟩; (try simp only [zq_] at hcx); obtain ⟨hc, hf, hz⟩ := xd hb) | (go_at_call 92; apply Calls.mono; apply pick_c; (apply Rdp.keep; assumption; (exact kb_)); (first | assumption | omega); (first | assumption | omega); rintro E w1 ⟨v, rfl, ⟨hv0, hv1⟩, hrd, hb⟩; obtain ⟨hc, hf, hz⟩ := xd hb) | fail)
     all_goals go_meet
     all_goals exact ⟨by (repeat (first | with_reducible assumption | exact Ints.new (zs := [_, _, _, _, _, _]) (by first | with_reducible rfl | omega | (simp only [zq_]; done) | (simp only [zq_]; omega)) rfl rfl | exact Ints.new (zs := [_, _, _]) (by first | with_reducible rfl | omega | (simp only [zq_]; done) | (simp only [zq_]; omega)) rfl rfl | exact Ints.new (zs := [_, _, _, _]) (by first | with_reducible rfl | omega | (simp only [zq_]; done) | (simp only [zq_]; omega)) rfl rfl | with_reducible apply Ints.alloc | with_reducible apply Ints.drew | (with_reducible refine Ints.set ?_ rfl) | (with_reducible refine Ints.ch (by assumption) (by first | exact (fun h => h) | omega | (simp only [zq_]; omega)) ?_))), by (repeat (first | with_reducible assumption | exact Ints.new (zs := [_, _, _, _, _, _]) (by first | with_reducible rfl | omega | (simp only [zq_]; done) | (simp only [zq_]; omega)) rfl rfl | exact Ints.new (zs := [_, _, _]) (by first | with_reducible rfl | omega | (simp only [zq_]; done) | (simp only [zq_]; omega)) rfl rfl | exact Ints.new (zs := [_, _, _, _]) (by first | with_reducible rfl | omega | (simp only [zq_]; done) | (simp only [zq_]; omega)) rfl rfl | with_reducible apply Ints.alloc | with_reducible apply Ints.drew | (with_reducible refine Ints.set ?_ rfl) | (with_reducible refine Ints.ch (by assumption) (by first | exact (fun h => h) | omega | (simp only [zq_]; omega)) ?_))), Rdp.more (Rdp.keep (by assumption) (by (exact kb_))) (by omega), ext_⟩
   case rest =>
     ((repeat (rename Ch _ _ _ => zz; clear zz)); (repeat (rename Rdp _ _ _ => zz; clear zz)); (repeat (rename (∀ (b o : Nat), ¬ ((⟨b, 0, none⟩ : Addr) = ⟨b - _ + _, 0, none⟩) → _) => zz; clear zz)))
     clear hI hR ci0 ci1 ci2 ci3 ci4 ci5 hci0 hci1 hci2 hci3 hci4 hci5 hcif cr0 cr1 cr2 cr3 cr4 cr5 hcr0 hcr1 hcr2 hcr3 hcr4 hcr5 hcrf
     obtain ⟨own, res, rd, hbx⟩ := hcut
     obtain ⟨o0, ho0⟩ := own.at_ (i := 0) (by omega); obtain ⟨o1, ho1⟩ := own.at_ (i := 1) (by omega); obtain ⟨o2, ho2⟩ := own.at_ (i := 2) (by omega); obtain ⟨o3, ho3⟩ := own.at_ (i := 3) (by omega); obtain ⟨o4, ho4⟩ := own.at_ (i := 4) (by omega); obtain ⟨o5, ho5⟩ := own.at_ (i := 5) (by omega); have hof := own.free
     obtain ⟨r0, hr0⟩ := res.at_ (i := 0) (by omega); obtain ⟨r1, hr1⟩ := res.at_ (i := 1) (by omega); obtain ⟨r2, hr2⟩ := res.at_ (i := 2) (by omega); obtain ⟨r3, hr3⟩ := res.at_ (i := 3) (by omega); obtain ⟨r4, hr4⟩ := res.at_ (i := 4) (by omega); obtain ⟨r5, hr5⟩ := res.at_ (i := 5) (by omega); have hrf := res.free
     go_wp2_with fail
     refine bodyPost_ret (v := .agg #[.int .i64 o0, .int .i64 o1, .int .i64 o2, .int .i64 o3, .int .i64 o4, .int .i64 o5]) (by simp [results, Tryz.results196, go_sem, *]) rfl ?_
     exact ⟨_, _, _, _, _, _, rfl, (Rdp.keep rd (by (exact kb_))).more (by omega), ext_⟩
set_option maxHeartbeats 400000
def AskPost (lo : Nat) (τ : Nat → Nat) (w w' : World) (v : Value → Value) (E : Ending) (F : Option Addr) (Fc Fn : Nat) (G : Option Addr) (Gc Gn : Nat) (X : Option Addr) (Xc Xn : Nat) (z : Sw.World) : Prop :=
 ∃ (bL : Option Addr) (bLc bLn : Nat) (bP : Option Addr) (bPc bPn : Nat) (bD : Option Addr) (bDc bDn : Nat) (bN : Option Addr) (bNc bNn : Nat) (bS : Option Addr) (bSc bSn : Nat) (I : Option Addr) (Ic In : Nat) (τ' : Nat → Nat), E = .returned (v (.agg #[.slice F Fn Fc, .slice bL bLn bLc, .slice bP bPn bPc, .slice bD bDn bDc, .int .i64 z.market.clock, .slice bN bNn bNc, .slice bS bSn bSc, .slice I In Ic, .slice G Gn Gc, .slice X Xn Xc])) ∧
   OwM τ' w' lo bL bLc bLn bP bPc bPn bD bDc bDn bN bNc bNn bS bSc bSn z.market ∧ OwTQ τ' 7 w' lo I Ic In z.lines ∧ (∀ b, b < w.heap.size → τ' b = τ b) ∧ Ch (SA lo τ) w w'
theorem SA.sm {lo b : Nat} {τ : Nat → Nat} (h : SM lo τ b) : SA lo τ b := ⟨h.1, h.2.1, by have := h.2.2; omega, by have := h.2.2; omega⟩
theorem sAsk_c (aF : Option Addr) (aFc aFn : Nat) (aL : Option Addr) (aLc aLn : Nat) (aP : Option Addr) (aPc aPn : Nat) (aD : Option Addr) (aDc aDn : Nat) (aN : Option Addr) (aNc aNn : Nat) (aS : Option Addr) (aSc aSn : Nat) (aI : Option Addr) (aIc aIn : Nat) (aG : Option Addr) (aGc aGn : Nat) (aB : Option Addr) (aBc aBn : Nat) (x : Sw.World) (r : Sw.Req) (rows : List Sw.Row) (lo : Nat) (τ : Nat → Nat) (w : World) (hM : OwM τ w lo aL aLc aLn aP aPc aPn aD aDc aDn aN aNc aNn aS aSc aSn x.market) (hI : OwTQ τ 7 w lo aI aIc aIn x.lines) (hok : Sw.MOk x.market rows) (hln : aIn ≤ 300) (hlo : lo ≤ w.heap.size) : Calls Tryz.prog 142 #[.agg #[.slice aF aFn aFc, .slice aL aLn aLc, .slice aP aPn aPc, .slice aD aDn aDc, .int .i64 x.market.clock, .slice aN aNn aNc, .slice aS aSn aSc, .slice aI aIn aIc, .slice aG aGn aGc, .slice aB aBn aBc], .agg #[.int .i64 r.user, .int .i64 r.n, .int .i64 r.kind, .int .i64 r.ticket, .int .i64 r.who, .int .i64 r.price]] w fun E w' => AskPost lo τ w w' (fun u => .tuple #[u, .int .i64 (Sw.ask x r).2]) E aF aFc aFn aG aGc aGn aB aBc aBn (Sw.ask x r).1 := by
 have hll := Lib.hid hI.ow.1
 cases g1 : Sw.reqOk r
 case false =>
   have e : Sw.ask x r = (x, 0) := by simp [Sw.ask, g1]
   rw [e]; clear e
   obtain ⟨ru, rn, rk, rt, rh, rp⟩ := r
   go_enter Tryz.func142, Tryz.ntmps142
   go_wp2_with (go_at_call 52; apply Calls.mono; apply (sReqOk_c ⟨ru, rn, rk, rt, rh, rp⟩); rintro E w3 ⟨rfl, hb⟩; rw [g1]; obtain ⟨hc, hf, hz⟩ := xy hb)
   refine bodyPost_ret (v := .tuple #[.agg #[.slice aF aFn aFc, .slice aL aLn aLc, .slice aP aPn aPc, .slice aD aDn aDc, .int .i64 x.market.clock, .slice aN aNn aNc, .slice aS aSn aSc, .slice aI aIn aIc, .slice aG aGn aGc, .slice aB aBn aBc], .int .i64 0]) (by simp [results, Tryz.results142, go_sem, *]) rfl ?_
   exact ⟨aL, aLc, aLn, aP, aPc, aPn, aD, aDc, aDn, aN, aNc, aNn, aS, aSc, aSn, aI, aIc, aIn, τ, rfl, hM.keepF kf_, hI.keepF kf_, fun _ _ => rfl, ext_⟩
 by_cases g2 : aIn = 300
 · have g2' : ((aIn : Int) == 300) = true := by simp; omega
   have e : Sw.ask x r = (x, 0) := by simp [Sw.ask, g1, ← hll.out, g2]
   rw [e]; clear e g2
   obtain ⟨ru, rn, rk, rt, rh, rp⟩ := r
   go_enter Tryz.func142, Tryz.ntmps142
   go_wp2_with (go_at_call 52; apply Calls.mono; apply (sReqOk_c ⟨ru, rn, rk, rt, rh, rp⟩); rintro E w3 ⟨rfl, hb⟩; rw [g1]; obtain ⟨hc, hf, hz⟩ := xy hb)
   refine bodyPost_ret (v := .tuple #[.agg #[.slice aF aFn aFc, .slice aL aLn aLc, .slice aP aPn aPc, .slice aD aDn aDc, .int .i64 x.market.clock, .slice aN aNn aNc, .slice aS aSn aSc, .slice aI aIn aIc, .slice aG aGn aGc, .slice aB aBn aBc], .int .i64 0]) (by simp [results, Tryz.results142, go_sem, *]) rfl ?_
   exact ⟨aL, aLc, aLn, aP, aPc, aPn, aD, aDc, aDn, aN, aNc, aNn, aS, aSc, aSn, aI, aIc, aIn, τ, rfl, hM.keepF kf_, hI.keepF kf_, fun _ _ => rfl, ext_⟩
 have g2' : ((aIn : Int) == 300) = false := by simp; omega
 have hlt : x.lines.length < 300 := by rw [← hll.out]; omega
 obtain ⟨y, hy⟩ : ∃ y, y = Sw.doIt x.market r := ⟨_, rfl⟩
 have e : Sw.ask x r = ({ x with market := y.1, lines := x.lines ++ [r] }, y.2) := by simp [Sw.ask, g1, hlt, hy]
 rw [e]
 have Hy := Lib.hid hy
 have HK := Lib.hid hok
 clear e hy hlt hok g2
 have hG := hM.glueL (τ' := fun _ => 0) (Nat.le_refl _)
 have hGI := hI.glueL (τ' := fun _ => 0) (Nat.le_refl _)
 obtain ⟨ru, rn, rk, rt, rh, rp⟩ := r
 dsimp only
 go_enter Tryz.func142, Tryz.ntmps142
 go_wp2_with (go_at_call 52; apply Calls.mono; apply (sReqOk_c ⟨ru, rn, rk, rt, rh, rp⟩); rintro E w3 ⟨rfl, hb⟩; rw [g1]; obtain ⟨hc, hf, hz⟩ := xy hb)
 apply Calls.mono
 apply (sDo_c (m := x.market) (r := ⟨ru, rn, rk, rt, rh, rp⟩) (rows := rows) (τ := glue τ w.heap.size (fun _ => 0)) (lo := lo))
 · exact hG.keepF kf_
 · exact HK.out
 · exact g1
 · exact sz_
 rintro E w6 ⟨bL, bLc, bLn, bP, bPc, bPn, bD, bDc, bDn, bN, bNc, bNn, bS, bSc, bSn, τ6, rfl, ho6, hτ6, hb6⟩
 rw [← Hy.out] at ho6 ⊢
 have hI6 : OwTQ τ6 7 w6 lo aI aIc aIn x.lines := (hGI.keepF (show KF lo w _ from kf_)).sm hb6 (by decide) hτ6
 obtain ⟨hB0, hF0⟩ := Ch.sm_keep hb6 (g := w.heap.size) sz_ (if_neg (by omega))
 obtain ⟨hB2, hF2⟩ := Ch.sm_keep hb6 (g := w.heap.size + 1) sz_ (if_neg (by omega))
 obtain ⟨hB1, hF1⟩ := Ch.sm_keep hb6 (g := w.heap.size + 1 + 1) sz_ (if_neg (by omega))
 have hz6 := hb6.size
 (try simp only [zq_] at hz6)
 have h60 : ∀ b, w.heap.size ≤ b → b < w.heap.size + 3 → τ6 b = 0 := fun b h1 h2 => (hτ6 b sz_).trans (if_neg (by omega))
 have hcA : Ch (SA lo τ) w w6 := Ch.trans' (show Ch (SA lo τ) w _ from ext_) hb6 (fun i hi h => SA.sm (by
   obtain ⟨h1, h2, h3⟩ := h
   unfold glue at h2 h3
   rw [if_pos (by exact hi)] at h2 h3
   exact ⟨h1, h2, h3⟩))
 have hbK := hb6
 clear hb6
 go_upto_region 5 with fail
 (refine wn_ fun W0 hb0 hc0 hf0 hz0 => ?_)
 have hLr : Lb W0 (w.heap.size + 1 + 1) 10 := by
   refine Lb.ex ?_ hb0
   repeat apply Lb.set
   apply Lb.alloc
   refine Lb.chk hbK ?_ (fun h => (by have h2 := h.2.1; rw [glue, if_neg (by omega)] at h2; omega))
   exact lbc_
 have p0 : W0.cell? ⟨w.heap.size, 0, none⟩ = some (.slice aF aFn aFc) := (co_); have p1 : W0.cell? ⟨w.heap.size, 1, none⟩ = some (.slice bL bLn bLc) := (co_); have p2 : W0.cell? ⟨w.heap.size, 2, none⟩ = some (.slice bP bPn bPc) := (co_); have p3 : W0.cell? ⟨w.heap.size, 3, none⟩ = some (.slice bD bDn bDc) := (co_); have p4 : W0.cell? ⟨w.heap.size, 4, none⟩ = some (.int .i64 y.1.clock) := (co_); have p5 : W0.cell? ⟨w.heap.size, 5, none⟩ = some (.slice bN bNn bNc) := (co_); have p6 : W0.cell? ⟨w.heap.size, 6, none⟩ = some (.slice bS bSn bSc) := (co_); have p7 : W0.cell? ⟨w.heap.size, 7, none⟩ = some (.slice aI aIn aIc) := (co_); have p8 : W0.cell? ⟨w.heap.size, 8, none⟩ = some (.slice aG aGn aGc) := (co_); have p9 : W0.cell? ⟨w.heap.size, 9, none⟩ = some (.slice aB aBn aBc) := (co_)
 have pr : W0.cell? ⟨w.heap.size + 1, 0, none⟩ = some (.int .i64 ru) := co_
 have pr1 : W0.cell? ⟨w.heap.size + 1, 1, none⟩ = some (.int .i64 rn) := co_
 have pr2 : W0.cell? ⟨w.heap.size + 1, 2, none⟩ = some (.int .i64 rk) := co_
 have pr3 : W0.cell? ⟨w.heap.size + 1, 3, none⟩ = some (.int .i64 rt) := co_
 have pr4 : W0.cell? ⟨w.heap.size + 1, 4, none⟩ = some (.int .i64 rh) := co_
 have pr5 : W0.cell? ⟨w.heap.size + 1, 5, none⟩ = some (.int .i64 rp) := co_
 have pf : ∀ i : Nat, W0.frozen? ⟨w.heap.size, i, none⟩ = false := fun i => co_
 have hI7 := hI6.box (g0 := w.heap.size) (g1 := w.heap.size + 3) (show Ch (BX w.heap.size (w.heap.size + 3)) w6 W0 from bx_) h60 (by decide)
 have ho7 := ho6.box (g0 := w.heap.size) (g1 := w.heap.size + 3) (show Ch (BX w.heap.size (w.heap.size + 3)) w6 W0 from bx_) h60
 have hcB : Ch (SA lo τ) w W0 := ext_
 have hz7 : w6.heap.size ≤ W0.heap.size := sz_
 have hzW : w.heap.size + 3 ≤ W0.heap.size := sz_
 clear hc0 hf0 hb0 hB0 hB1 hB2 hF0 hF1 hF2 hc hf hb hbK hcA
 obtain ⟨hcz, hfz⟩ := Lb.rules hLr
 go_wp2_with (at_builtin; apply wpList_app (lo := lo) el_Q one_Q rfl rfl rfl rfl; (exact Ow.keep hI7.ow kf_); (refine Rs.new [⟨ru, rn, rk, rt, rh, rp⟩] (by (first | with_reducible rfl | (simp only [zq_]; done) | (simp only [zq_]; omega))) rfl rfl (fun _ => rfl) (by omega)); omega; (exact sz_); intro A1 c1 w7 ho1 hch1 hat1 hex1 hlow1; clear hex1 hlow1; obtain ⟨hC0, hG0⟩ := Ch.atA_keep hch1 (g := w.heap.size) (by exact sz_) (Ow.apart hI.ow (by omega)); obtain ⟨hC1, hG1⟩ := Ch.atA_keep hch1 (g := w.heap.size + 1 + 1) (by exact sz_) (Ow.apart hI.ow (by omega)); have hzA := hch1.size; (try simp only [zq_] at hzA))
 refine bodyPost_ret (v := .tuple #[.agg #[.slice aF aFn aFc, .slice bL bLn bLc, .slice bP bPn bPc, .slice bD bDn bDc, .int .i64 y.1.clock, .slice bN bNn bNc, .slice bS bSn bSc, .slice A1 (aIn + 1) c1, .slice aG aGn aGc, .slice aB aBn aBc], .int .i64 y.2]) (by simp [results, Tryz.results142, go_sem, *]) rfl ?_
 have hlA : ∀ a, aI = some a → a.block < W0.heap.size := fun a ha => (hI7.ow.blk ha).2
 have m2 := OwM.app (τ' := fun _ => 7) (ho7.keepF (show KF lo W0 _ from kf_)) hch1 hI6.tag (by decide) (fun a ha => Nat.lt_of_lt_of_le (hlA a ha) sz_)
 have i2 := OwT.full ho1 (hI7.keepF (show KF lo W0 _ from kf_)) hat1
 have hS := Ch.trans' (show Ch (SA lo τ) w _ from ext_) hch1 (fun i _ ⟨a, ha, e⟩ => by
   have h1 := hI.ow.blk ha; have h2 := hI.tag a ha
   subst e
   exact ⟨h1.1, by omega, by omega, by omega⟩)
 exact ⟨bL, bLc, bLn, bP, bPc, bPn, bD, bDc, bDn, bN, bNc, bNn, bS, bSc, bSn, A1, c1, aIn + 1, _, rfl, m2.box (g0 := w.heap.size) (g1 := w.heap.size + 3) bx_ (tag1 h60 sz_), i2.box (g0 := w.heap.size) (g1 := w.heap.size + 3) bx_ (tag1 h60 sz_) (by decide), fun b hb => (if_pos sz_).trans ((hτ6 b sz_).trans (if_pos hb)), ext_⟩
set_option maxHeartbeats 4000000
theorem sTickW_c (aF : Option Addr) (aFc aFn : Nat) (aL : Option Addr) (aLc aLn : Nat) (aP : Option Addr) (aPc aPn : Nat) (aD : Option Addr) (aDc aDn : Nat) (aN : Option Addr) (aNc aNn : Nat) (aS : Option Addr) (aSc aSn : Nat) (aI : Option Addr) (aIc aIn : Nat) (aG : Option Addr) (aGc aGn : Nat) (aB : Option Addr) (aBc aBn : Nat) (x : Sw.World) (rows : List Sw.Row) (lo : Nat) (τ : Nat → Nat) (w : World) (hM : OwM τ w lo aL aLc aLn aP aPc aPn aD aDc aDn aN aNc aNn aS aSc aSn x.market) (hI : OwTQ τ 7 w lo aI aIc aIn x.lines) (hok : Sw.MOk x.market rows) (hln : aIn ≤ 300) (hlo : lo ≤ w.heap.size) : Calls Tryz.prog 143 #[.agg #[.slice aF aFn aFc, .slice aL aLn aLc, .slice aP aPn aPc, .slice aD aDn aDc, .int .i64 x.market.clock, .slice aN aNn aNc, .slice aS aSn aSc, .slice aI aIn aIc, .slice aG aGn aGc, .slice aB aBn aBc]] w fun E w' => AskPost lo τ w w' (fun u => u) E aF aFc aFn aG aGc aGn aB aBc aBn (Sw.tickW x) := by
 have hll := Lib.hid hI.ow.1
 have hsz := MOk_len hok
 have hl1 := hM.deals.ow.1
 have hl2 := hM.purses.ow.1
 have hD4 : aDn ≤ 4194304 := by omega
 have hP4 : aPn ≤ 4194304 := by omega
 have hck := hok.clk
 clear hsz hl1 hl2
 by_cases g1 : x.market.clock = 99999
 · have g1' : (x.market.clock == 99999) = true := by simp [g1]
   have e : Sw.tickW x = x := by simp [Sw.tickW, g1]
   rw [e]; clear e g1
   go_enter Tryz.func143, Tryz.ntmps143
   go_wp2_with fail
   refine bodyPost_ret (v := .agg #[.slice aF aFn aFc, .slice aL aLn aLc, .slice aP aPn aPc, .slice aD aDn aDc, .int .i64 x.market.clock, .slice aN aNn aNc, .slice aS aSn aSc, .slice aI aIn aIc, .slice aG aGn aGc, .slice aB aBn aBc]) (by simp [results, Tryz.results143, go_sem, *]) rfl ?_
   exact ⟨aL, aLc, aLn, aP, aPc, aPn, aD, aDc, aDn, aN, aNc, aNn, aS, aSc, aSn, aI, aIc, aIn, τ, rfl, hM.keepF kf_, hI.keepF kf_, fun _ _ => rfl, ext_⟩
 have g1' : (x.market.clock == 99999) = false := by simp [g1]
 by_cases g2 : aIn = 300
 · have g2' : ((aIn : Int) == 300) = true := by simp; omega
   have e : Sw.tickW x = x := by simp [Sw.tickW, ← hll.out, g2]
   rw [e]; clear e g2 g1
   go_enter Tryz.func143, Tryz.ntmps143
   go_wp2_with fail
   refine bodyPost_ret (v := .agg #[.slice aF aFn aFc, .slice aL aLn aLc, .slice aP aPn aPc, .slice aD aDn aDc, .int .i64 x.market.clock, .slice aN aNn aNc, .slice aS aSn aSc, .slice aI aIn aIc, .slice aG aGn aGc, .slice aB aBn aBc]) (by simp [results, Tryz.results143, go_sem, *]) rfl ?_
   exact ⟨aL, aLc, aLn, aP, aPc, aPn, aD, aDc, aDn, aN, aNc, aNn, aS, aSc, aSn, aI, aIc, aIn, τ, rfl, hM.keepF kf_, hI.keepF kf_, fun _ _ => rfl, ext_⟩
 have g2' : ((aIn : Int) == 300) = false := by simp; omega
 have hlt : x.lines.length < 300 := by rw [← hll.out]; omega
 have e : Sw.tickW x = { x with market := Sw.tick x.market, lines := x.lines ++ [Sw.reqZ] } := by simp [Sw.tickW, g1, hlt]
 rw [e]
 clear e hlt g1 g2 hok
 have hG := hM.glueL (τ' := fun _ => 0) (Nat.le_refl _)
 have hGI := hI.glueL (τ' := fun _ => 0) (Nat.le_refl _)
 go_enter Tryz.func143, Tryz.ntmps143
 go_wp2_with fail
 apply Calls.mono
 apply (sTick_c (m := x.market) (τ := glue τ w.heap.size (fun _ => 0)) (lo := lo))
 · exact hG.keepF kf_
 · exact hck.1
 · exact hck.2
 · exact hD4
 · exact hP4
 · exact sz_
 rintro E w6 ⟨A6, c6, τ6, rfl, ho6, hτ6, hb6⟩
 have hI6 : OwTQ τ6 7 w6 lo aI aIc aIn x.lines := (hGI.keepF (show KF lo w _ from kf_)).sm hb6 (by decide) hτ6
 obtain ⟨hB0, hF0⟩ := Ch.sm_keep hb6 (g := w.heap.size) sz_ (if_neg (by omega))
 obtain ⟨hB1, hF1⟩ := Ch.sm_keep hb6 (g := w.heap.size + 1) sz_ (if_neg (by omega))
 have hz6 := hb6.size
 (try simp only [zq_] at hz6)
 have h60 : ∀ b, w.heap.size ≤ b → b < w.heap.size + 2 → τ6 b = 0 := fun b h1 h2 => (hτ6 b sz_).trans (if_neg (by omega))
 have hcA : Ch (SA lo τ) w w6 := Ch.trans' (show Ch (SA lo τ) w _ from ext_) hb6 (fun i hi h => SA.sm (by
   obtain ⟨h1, h2, h3⟩ := h
   unfold glue at h2 h3
   rw [if_pos (by exact hi)] at h2 h3
   exact ⟨h1, h2, h3⟩))
 have hbK := hb6
 clear hb6
 go_upto_region 4 with fail
 (refine wn_ fun W0 hb0 hc0 hf0 hz0 => ?_)
 have hLr : Lb W0 (w.heap.size + 1) 10 := by
   refine Lb.ex ?_ hb0
   repeat apply Lb.set
   refine Lb.chk hbK ?_ (fun h => (by have h2 := h.2.1; rw [glue, if_neg (by omega)] at h2; omega))
   exact lbc_
 have p0 : W0.cell? ⟨w.heap.size, 0, none⟩ = some (.slice aF aFn aFc) := (co_); have p1 : W0.cell? ⟨w.heap.size, 1, none⟩ = some (.slice aL aLn aLc) := (co_); have p2 : W0.cell? ⟨w.heap.size, 2, none⟩ = some (.slice A6 aPn c6) := (co_); have p3 : W0.cell? ⟨w.heap.size, 3, none⟩ = some (.slice aD aDn aDc) := (co_); have p4 : W0.cell? ⟨w.heap.size, 4, none⟩ = some (.int .i64 (x.market.clock + 1)) := (co_); have p5 : W0.cell? ⟨w.heap.size, 5, none⟩ = some (.slice aN aNn aNc) := (co_); have p6 : W0.cell? ⟨w.heap.size, 6, none⟩ = some (.slice aS aSn aSc) := (co_); have p7 : W0.cell? ⟨w.heap.size, 7, none⟩ = some (.slice aI aIn aIc) := (co_); have p8 : W0.cell? ⟨w.heap.size, 8, none⟩ = some (.slice aG aGn aGc) := (co_); have p9 : W0.cell? ⟨w.heap.size, 9, none⟩ = some (.slice aB aBn aBc) := (co_)
 have pf : ∀ i : Nat, W0.frozen? ⟨w.heap.size, i, none⟩ = false := fun i => co_
 have hI7 := hI6.box (g0 := w.heap.size) (g1 := w.heap.size + 2) (show Ch (BX w.heap.size (w.heap.size + 2)) w6 W0 from bx_) h60 (by decide)
 have ho7 := ho6.box (g0 := w.heap.size) (g1 := w.heap.size + 2) (show Ch (BX w.heap.size (w.heap.size + 2)) w6 W0 from bx_) h60
 have hcB : Ch (SA lo τ) w W0 := ext_
 have hz7 : w6.heap.size ≤ W0.heap.size := sz_
 have hzW : w.heap.size + 2 ≤ W0.heap.size := sz_
 clear hc0 hf0 hb0 hB0 hB1 hF0 hF1 hbK hcA
 obtain ⟨hcz, hfz⟩ := Lb.rules hLr
 go_wp2_with (at_builtin; apply wpList_app (lo := lo) el_Q one_Q rfl rfl rfl rfl; (exact Ow.keep hI7.ow kf_); (refine Rs.new [Sw.reqZ] (by (first | with_reducible rfl | (simp only [zq_]; done) | (simp only [zq_]; omega))) rfl rfl (fun _ => rfl) (by omega)); omega; (exact sz_); intro A1 c1 w7 ho1 hch1 hat1 hex1 hlow1; clear hex1 hlow1; obtain ⟨hC0, hG0⟩ := Ch.atA_keep hch1 (g := w.heap.size) (by exact sz_) (Ow.apart hI.ow (by omega)); obtain ⟨hC1, hG1⟩ := Ch.atA_keep hch1 (g := w.heap.size + 1) (by exact sz_) (Ow.apart hI.ow (by omega)); have hzA := hch1.size; (try simp only [zq_] at hzA))
 refine bodyPost_ret (v := .agg #[.slice aF aFn aFc, .slice aL aLn aLc, .slice A6 aPn c6, .slice aD aDn aDc, .int .i64 (x.market.clock + 1), .slice aN aNn aNc, .slice aS aSn aSc, .slice A1 (aIn + 1) c1, .slice aG aGn aGc, .slice aB aBn aBc]) (by simp [results, Tryz.results143, go_sem, *]) rfl ?_
 have hlA : ∀ a, aI = some a → a.block < W0.heap.size := fun a ha => (hI7.ow.blk ha).2
 have m2 := OwM.app (τ' := fun _ => 7) (ho7.keepF (show KF lo W0 _ from kf_)) hch1 hI6.tag (by decide) (fun a ha => Nat.lt_of_lt_of_le (hlA a ha) sz_)
 have i2 := OwT.full ho1 (hI7.keepF (show KF lo W0 _ from kf_)) hat1
 have hS := Ch.trans' (show Ch (SA lo τ) w _ from ext_) hch1 (fun i _ ⟨a, ha, e⟩ => by
   have h1 := hI.ow.blk ha; have h2 := hI.tag a ha
   subst e
   exact ⟨h1.1, by omega, by omega, by omega⟩)
 exact ⟨aL, aLc, aLn, A6, c6, aPn, aD, aDc, aDn, aN, aNc, aNn, aS, aSc, aSn, A1, c1, aIn + 1, _, rfl, m2.box (g0 := w.heap.size) (g1 := w.heap.size + 2) bx_ (tag1 h60 sz_), i2.box (g0 := w.heap.size) (g1 := w.heap.size + 2) bx_ (tag1 h60 sz_) (by decide), fun b hb => (if_pos sz_).trans ((hτ6 b sz_).trans (if_pos hb)), ext_⟩
set_option maxHeartbeats 8000000
theorem fold_none {fs : List Int} {ls : List Sw.Req} (h : ¬ (Sw.monOk fs && decide (Sw.monSum fs ≤ 100000) && decide (ls.length ≤ 300)) = true) : Sw.wldFold fs ls = none := by unfold Sw.wldFold; rw [if_neg h]
theorem RM.zero {w : World} {lo : Nat} : RM w lo none 0 0 none 0 0 none 0 0 none 0 0 none 0 0 Sw.mktZ := (OwM.zero (τ := fun _ => 0)).rm
theorem MOk.small {aL : Option Addr} {aLc aLn : Nat} {aP : Option Addr} {aPc aPn : Nat} {aD : Option Addr} {aDc aDn : Nat} {aN : Option Addr} {aNc aNn : Nat} {aS : Option Addr} {aSc aSn : Nat} {w : World} {lo : Nat} {m : Sw.Mkt} {rows : List Sw.Row} (h : Sw.MOk m rows) (hm : RM w lo aL aLc aLn aP aPc aPn aD aDc aDn aN aNc aNn aS aSc aSn m) : aLn + aPn + aDn + aNn + aSn ≤ 1000 := by
 obtain ⟨q1, q2, q3, q4, q5⟩ := MOk_len h
 have := hm.log.1; have := hm.purses.1; have := hm.deals.1; have := hm.nums.1; have := hm.said.1
 omega
theorem fold_zero {m : Sw.Mkt} {rs : List Sw.Req} : Sw.foldLines m (Sw.reqZ :: rs) = if m.clock = 99999 then none else Sw.foldLines (Sw.tick m) rs := by rw [Sw.foldLines, if_pos rfl]
theorem fold_req {m : Sw.Mkt} {r : Sw.Req} {rs : List Sw.Req} (h : r ≠ Sw.reqZ) : Sw.foldLines m (r :: rs) = if Sw.reqOk r = true then Sw.foldLines (Sw.doIt m r).1 rs else none := by rw [Sw.foldLines, if_neg h]
theorem sWldFold_c (A : Option Addr) (c n : Nat) (fs : List Int) (B : Option Addr) (d q : Nat) (ls : List Sw.Req) (w : World) (hf : RI w 0 A c n fs) (hl : RQ w 0 B d q ls) : Calls Tryz.prog 41 #[.slice A n c, .slice B q d] w fun E w' => ∃ bL bLc bLn bP bPc bPn bD bDc bDn bN bNc bNn bS bSc bSn, E = .returned (.tuple #[.agg #[.slice bL bLn bLc, .slice bP bPn bPc, .slice bD bDn bDc, .int .i64 ((Sw.wldFold fs ls).getD Sw.mktZ).clock, .slice bN bNn bNc, .slice bS bSn bSc], .bool (Sw.wldFold fs ls).isSome]) ∧ RM w' w.heap.size bL bLc bLn bP bPc bPn bD bDc bDn bN bNc bNn bS bSc bSn ((Sw.wldFold fs ls).getD Sw.mktZ) ∧ Ex w w' := by
 have hll := Lib.hid hl.1
 have hbig := Rs.big hl
 by_cases gv : (Sw.monOk fs && decide (Sw.monSum fs ≤ 100000)) = true
 case neg =>
   have e : Sw.wldFold fs ls = none := fold_none fun h => gv (Bool.and_eq_true_iff.1 h).1
   have em : Sw.mktNew fs = Sw.mktZ := by unfold Sw.mktNew; rw [if_neg gv]
   have He := Lib.hid e; have Hm := Lib.hid em; clear e em gv
   go_enter Tryz.func41, Tryz.ntmps41
   go_wp2_with fail
   apply Calls.mono
   apply sMktNew_c
   · apply Rs.at0 hf; (exact kf_)
   rintro E w1 ⟨bL, bLc, bLn, bP, bPc, bPn, bD, bDc, bDn, bN, bNc, bNn, bS, bSc, bSn, τm, rfl, hoM, hb⟩
   obtain rfl : bPn = 0 := by have := hoM.purses.ow.1; rw [Hm.out] at this; exact this
   obtain ⟨hc, hf, hz⟩ := xy hb
   go_wp2_with fail
   refine bodyPost_ret (v := .tuple #[.agg #[.slice none 0 0, .slice none 0 0, .slice none 0 0, .int .i64 0, .slice none 0 0, .slice none 0 0], .bool false]) (by simp [results, Tryz.results41, go_sem, *]) rfl ?_
   refine ⟨_, _, _, _, _, _, _, _, _, _, _, _, _, _, _, by rw [He.out]; rfl, ?_, ext_⟩
   rw [He.out]
   exact RM.zero
 have em : Sw.mktNew fs = ⟨[], fs, [], 0, [0, 0, 0, 0, 0], [0, 0, 0, 0, 0]⟩ := by unfold Sw.mktNew; rw [if_pos gv]
 have h5 : fs.length = 5 := monOk_len (Bool.and_eq_true_iff.1 gv).1
 have hok0 : Sw.MOk (Sw.mktNew fs) _ := Sw.mktNew_ok (Bool.and_eq_true_iff.1 gv).1 (by simpa using (Bool.and_eq_true_iff.1 gv).2)
 have Hm := Lib.hid em; have H5 := Lib.hid h5; have HK0 := Lib.hid hok0; have GV := Lib.hid gv; clear em h5 hok0 gv
 by_cases gl : q ≤ 300
 case neg =>
   have e : Sw.wldFold fs ls = none := fold_none fun h => gl (by have := (Bool.and_eq_true_iff.1 h).2; have := hll.out; simp at *; omega)
   have He := Lib.hid e; clear e
   go_enter Tryz.func41, Tryz.ntmps41
   go_wp2_with fail
   apply Calls.mono
   apply sMktNew_c
   · apply Rs.at0 hf; (exact kf_)
   rintro E w1 ⟨bL, bLc, bLn, bP, bPc, bPn, bD, bDc, bDn, bN, bNc, bNn, bS, bSc, bSn, τm, rfl, hoM, hb⟩
   obtain rfl : bPn = 5 := by have := hoM.purses.ow.1; rw [Hm.out] at this; exact this.trans H5.out
   obtain ⟨hc, hf, hz⟩ := xy hb
   go_wp2_with fail
   refine bodyPost_ret (v := .tuple #[.agg #[.slice none 0 0, .slice none 0 0, .slice none 0 0, .int .i64 0, .slice none 0 0, .slice none 0 0], .bool false]) (by simp [results, Tryz.results41, go_sem, *]) rfl ?_
   refine ⟨_, _, _, _, _, _, _, _, _, _, _, _, _, _, _, by rw [He.out]; rfl, ?_, ext_⟩
   rw [He.out]
   exact RM.zero
 have e0 : Sw.wldFold fs ls = Sw.foldLines (Sw.mktNew fs) ls := by unfold Sw.wldFold; rw [if_pos (by rw [GV.out, ← hll.out]; simp [gl])]
 have E0 := Lib.hid e0; clear e0
 go_enter Tryz.func41, Tryz.ntmps41
 go_wp2_with fail
 apply Calls.mono
 apply sMktNew_c
 · apply Rs.at0 hf; (exact kf_)
 rintro E w1 ⟨bL, bLc, bLn, bP, bPc, bPn, bD, bDc, bDn, bN, bNc, bNn, bS, bSc, bSn, τm, rfl, hoM, hb⟩
 obtain rfl : bPn = 5 := by have := hoM.purses.ow.1; rw [Hm.out] at this; exact this.trans H5.out
 have hbM := hb
 obtain ⟨hc, hf, hz⟩ := xy hb
 go_wp2_with fail
 go_loopw [7] (fun i wr => ∃ (k : Nat) (eL : Option Addr) (eLc eLn : Nat) (eP : Option Addr) (ePc ePn : Nat) (eD : Option Addr) (eDc eDn : Nat) (eN : Option Addr) (eNc eNn : Nat) (eS : Option Addr) (eSc eSn : Nat) (y : Sw.Mkt) (rows : List Sw.Row), k ≤ q ∧ i = .int .i64 k ∧ Ex w1 wr ∧ MktAt wr w1.heap.size 0 eL eLc eLn eP ePc ePn eD eDc eDn eN eNc eNn eS eSc eSn y.clock ∧ RM wr (w.heap.size + 1) eL eLc eLn eP ePc ePn eD eDc eDn eN eNc eNn eS eSc eSn y ∧ Sw.MOk y rows ∧ Sw.wldFold fs ls = Sw.foldLines y (ls.drop k)) (fun i _ => q - (intOf i).toNat)
 case atStart =>
   exact ⟨0, _, _, _, _, _, _, _, _, _, _, _, _, _, _, _, Sw.mktNew fs, _, Nat.zero_le _, rfl, ext_, ⟨sz_, co_, co_, co_, co_, co_, co_, fun i => co_⟩, (hoM.rm.keep kf_).less sz_, HK0.out, E0.out⟩
 case round =>
   obtain ⟨k, eL, eLc, eLn, eP, ePc, ePn, eD, eDc, eDn, eN, eNc, eNn, eS, eSc, eSn, y, rows, hk, rfl, hb2, hY, hRY, hok, hrel⟩ := hrel
   have hst := xr hb2
   (try simp only [zq_] at hst)
   obtain ⟨hc2, hf2, hz2⟩ := hst
   obtain ⟨y0, y1, y2, y3, y4, y5, y6, yf⟩ := hY
   simp only [Nat.zero_add] at y1 y2 y3 y4 y5 y6
   have hsm := MOk.small hok hRY
   have HK := Lib.hid hok
   clear hok
   have hbx := hb2
   by_cases hlt : k < q
   · obtain ⟨g, off, r, rfl, hg0, hg, hd, hr, q0, q1, q2, q3, q4, q5⟩ := at_Q hl hlt
     rw [hd] at hrel
     have t1 : (0 : Int) ≤ (k : Int) := by omega
     have t2 : (k : Int) < (q : Int) := by omega
     clear hd hr
     by_cases hz : r = Sw.reqZ
     · subst hz
       rw [fold_zero] at hrel
       by_cases hck : y.clock = 99999
       · rw [if_pos hck] at hrel
         have et : Sw.mktTick y = (y, false) := by unfold Sw.mktTick; rw [if_pos (Sw.mktOk_iff.2 ⟨_, HK.out⟩), if_pos hck]
         have Et := Lib.hid et
         have He := Lib.hid hrel
         clear et hrel hck
         simp only [Sw.reqZ] at q0 q1 q2 q3 q4 q5
         go_wp2_with (go_at_call 113; apply Calls.mono; apply (sMktTick_c (m := y)); (apply RM.at0 hRY; (exact kf_)); omega; rintro E w6 ⟨fL, fLc, fLn, fP, fPc, fPn, fD, fDc, fDn, fN, fNc, fNn, fS, fSc, fSn, τf, rfl, hof, hb⟩; rw [Et.out] at hof; rw [Et.out]; obtain ⟨hc, hf, hz⟩ := xy hb)
         refine bodyPost_ret (v := .tuple #[.agg #[.slice none 0 0, .slice none 0 0, .slice none 0 0, .int .i64 0, .slice none 0 0, .slice none 0 0], .bool false]) (by simp [results, Tryz.results41, go_sem, *]) rfl ?_
         refine ⟨_, _, _, _, _, _, _, _, _, _, _, _, _, _, _, by rw [He.out]; rfl, ?_, ext_⟩
         rw [He.out]
         exact RM.zero
       · rw [if_neg hck] at hrel
         have et : Sw.mktTick y = (Sw.tick y, true) := by unfold Sw.mktTick; rw [if_pos (Sw.mktOk_iff.2 ⟨_, HK.out⟩), if_neg hck]
         have Et := Lib.hid et
         have HKT := Lib.hid (Sw.tick_ok HK.out hck)
         have He := Lib.hid hrel
         clear et hrel hck
         simp only [Sw.reqZ] at q0 q1 q2 q3 q4 q5
         go_wp2_with (go_at_call 113; apply Calls.mono; apply (sMktTick_c (m := y)); (apply RM.at0 hRY; (exact kf_)); omega; rintro E w6 ⟨fL, fLc, fLn, fP, fPc, fPn, fD, fDc, fDn, fN, fNc, fNn, fS, fSc, fSn, τf, rfl, hof, hb⟩; rw [Et.out] at hof; rw [Et.out]; obtain ⟨hc, hf, hz⟩ := xy hb)
         go_roundw
         case rel =>
           exact ⟨k + 1, _, _, _, _, _, _, _, _, _, _, _, _, _, _, _, Sw.tick y, rows, by omega, by go_num, ext_, ⟨sz_, co_, co_, co_, co_, co_, co_, fun i => co_⟩, (hof.rm.keep kf_).less sz_, HKT.out, He.out⟩
         case measure => simp [intOf]; omega
     · rw [fold_req hz] at hrel
       have hz2 : decide (r = Sw.reqZ) = false := decide_eq_false hz
       rw [req_zero] at hz2
       have Hz2 := Lib.hid hz2
       obtain ⟨ru, rn, rk, rt, rh, rp⟩ := r
       dsimp only at q0 q1 q2 q3 q4 q5
       have Hrel := Lib.hid hrel
       clear hz hz2 hrel
       go_upto_region 9 with fail
       go_cut [37] (fun p wx => p = .bool false ∧ wx = wr.alloc (.cells #[.int .i64 ru, .int .i64 rn, .int .i64 rk, .int .i64 rt, .int .i64 rh, .int .i64 rp] 49))
       case first =>
         go_wp2_with fail
         all_goals go_meet
         all_goals first | exact ⟨rfl, by simp [*]⟩ | (exfalso; have := Hz2.out; simp_all)
       case rest =>
         obtain ⟨rfl, rfl⟩ := hcut
         cases hq : Sw.reqOk ⟨ru, rn, rk, rt, rh, rp⟩
         · have e1 : Sw.wldFold fs ls = none := by rw [Hrel.out, hq]; rfl
           have He := Lib.hid e1
           clear e1
           go_wp2_with (go_at_call 52; apply Calls.mono; apply (sReqOk_c ⟨ru, rn, rk, rt, rh, rp⟩); rintro E w3 ⟨rfl, hb⟩; rw [hq]; obtain ⟨hc, hf, hz⟩ := xy hb)
           refine bodyPost_ret (v := .tuple #[.agg #[.slice none 0 0, .slice none 0 0, .slice none 0 0, .int .i64 0, .slice none 0 0, .slice none 0 0], .bool false]) (by simp [results, Tryz.results41, go_sem, *]) rfl ?_
           refine ⟨_, _, _, _, _, _, _, _, _, _, _, _, _, _, _, by rw [He.out]; rfl, ?_, ext_⟩
           rw [He.out]
           exact RM.zero
         · have e1 : Sw.wldFold fs ls = Sw.foldLines (Sw.doIt y ⟨ru, rn, rk, rt, rh, rp⟩).1 (ls.drop (k + 1)) := by rw [Hrel.out, hq]; rfl
           obtain ⟨v, hv⟩ : ∃ v, v = Sw.doIt y ⟨ru, rn, rk, rt, rh, rp⟩ := ⟨_, rfl⟩
           rw [← hv] at e1
           have He := Lib.hid e1
           have Hv := Lib.hid hv
           have HQ := Lib.hid hq
           have HKD := Lib.hid (Sw.doIt_ok HK.out hq)
           clear e1 hv
           go_wp2_with (go_at_call 52; apply Calls.mono; apply (sReqOk_c ⟨ru, rn, rk, rt, rh, rp⟩); rintro E w3 ⟨rfl, hb⟩; rw [hq]; obtain ⟨hc, hf, hz⟩ := xy hb)
           (focus (refine wn_ fun W0 hb0 hc0 hf0 hz0 => ?_; refine wp_regionX [] (S := fun w' => Held W0 w') hdH (fun hHeld => ?_); refine GoesX.take 0 54 [] hHeld (h := ?_); refine GoesX.take 2 56 [] hHeld (h := ?_); refine GoesX.ready (rs := [1, 7]) (by kernel_rfl) (by simp) ?_; refine EachX.cons rfl (fun K hK => ?_) ?_; rotate_left; refine EachX.cons rfl (fun K hK => ?_) EachX.nil; (focus (go_simp; refine outS hK hdH (h := ?_); clear hK K hHeld; intro hHeld; refine GoesX.one 1 (h := fun K hK => ?_); go_simp; (go_at_call 115; apply Calls.mono; apply (sMktCopy_c (m := y)); (apply RM.at0 hRY; (exact kf_)); omega; rintro E w6 ⟨dL, dLc, dLn, dP, dPc, dPn, dD, dDc, dDn, dN, dNc, dNn, dS, dSc, dSn, τd, rfl, hod, hb⟩; obtain ⟨hc, hf, hz⟩ := xy hb); (try go_wp2_with fail); refine outS hK hdH (h := ?_); clear hK K hHeld; intro hHeld; refine GoesX.one 3 (h := fun K hK => ?_); go_simp; (go_at_call 114; apply Calls.mono; apply (sDo_c (m := y) (r := ⟨ru, rn, rk, rt, rh, rp⟩) (rows := rows) (τ := mid _ w6.heap.size τd)); (exact hod.mid.keepF kf_); (exact HK.out); (exact HQ.out); (exact sz_); rintro E w7 ⟨iL, iLc, iLn, iP, iPc, iPn, iD, iDc, iDn, iN, iNc, iNn, iS, iSc, iSn, τi, rfl, hoi, hτi, hb7⟩; rw [← Hv.out] at hoi; rw [← Hv.out]; have hHeldX := Held.of (Ch.trans' (show Ex W0 _ from ext_) hb7 (fun i hi h => (by have h1 := h.1; (try simp only [zq_] at h1); omega)) : Ex W0 w7); have hst := Ch.smRules hb7 rfl sz_; (try simp only [zq_] at hst hτi); obtain ⟨hcD, hfD, hcE, hfE, hzD⟩ := hst; clear hb7); (try go_wp2_with fail); refine outS hK hdH (h := ?_); clear hK K hHeld; intro hHeld; refine GoesX.take 4 53 [] hHeld (h := ?_); refine GoesX.take 5 58 [] hHeld (h := ?_); refine GoesX.take 6 59 [] hHeld (h := ?_); refine GoesX.one 8 (h := fun K hK => ?_); go_simp; refine outS hK hdH (h := ?_); clear hK K hHeld; intro hHeld; refine GoesX.take 9 12 [] hHeld (h := ?_); refine GoesX.done (by kernel_rfl) ?_ _; all_goals (obtain ⟨hb, hc, hf, hz⟩ := xh (by assumption : Held W0 _)))); rotate_right 1; (focus (go_simp; (go_at_call 115; apply Calls.mono; apply (sMktCopy_c (m := y)); (apply RM.at0 hRY; (exact kf_)); omega; rintro E w6 ⟨dL, dLc, dLn, dP, dPc, dPn, dD, dDc, dDn, dN, dNc, dNn, dS, dSc, dSn, τd, rfl, hod, hb⟩; obtain ⟨hc, hf, hz⟩ := xy hb); (try go_wp2_with fail); refine outS hK hdH (h := ?_); clear hK K hHeld; intro hHeld; refine GoesX.ready (rs := [3, 7]) (by kernel_rfl) (by simp) ?_; refine EachX.cons rfl (fun K hK => ?_) ?_; rotate_left; refine EachX.cons rfl (fun K hK => ?_) EachX.nil; (focus (go_simp; refine outS hK hdH (h := ?_); clear hK K hHeld; intro hHeld; refine GoesX.one 3 (h := fun K hK => ?_); go_simp; (go_at_call 114; apply Calls.mono; apply (sDo_c (m := y) (r := ⟨ru, rn, rk, rt, rh, rp⟩) (rows := rows) (τ := mid _ w6.heap.size τd)); (exact hod.mid.keepF kf_); (exact HK.out); (exact HQ.out); (exact sz_); rintro E w7 ⟨iL, iLc, iLn, iP, iPc, iPn, iD, iDc, iDn, iN, iNc, iNn, iS, iSc, iSn, τi, rfl, hoi, hτi, hb7⟩; rw [← Hv.out] at hoi; rw [← Hv.out]; have hHeldX := Held.of (Ch.trans' (show Ex W0 _ from ext_) hb7 (fun i hi h => (by have h1 := h.1; (try simp only [zq_] at h1); omega)) : Ex W0 w7); have hst := Ch.smRules hb7 rfl sz_; (try simp only [zq_] at hst hτi); obtain ⟨hcD, hfD, hcE, hfE, hzD⟩ := hst; clear hb7); (try go_wp2_with fail); refine outS hK hdH (h := ?_); clear hK K hHeld; intro hHeld; refine GoesX.take 4 53 [] hHeld (h := ?_); refine GoesX.take 5 58 [] hHeld (h := ?_); refine GoesX.take 6 59 [] hHeld (h := ?_); refine GoesX.one 8 (h := fun K hK => ?_); go_simp; refine outS hK hdH (h := ?_); clear hK K hHeld; intro hHeld; refine GoesX.take 9 12 [] hHeld (h := ?_); refine GoesX.done (by kernel_rfl) ?_ _; all_goals (obtain ⟨hb, hc, hf, hz⟩ := xh (by assumption : Held W0 _)))); rotate_right 1; (focus (go_simp; (go_at_call 114; apply Calls.mono; apply (sDo_c (m := y) (r := ⟨ru, rn, rk, rt, rh, rp⟩) (rows := rows) (τ := mid _ w6.heap.size τd)); (exact hod.mid.keepF kf_); (exact HK.out); (exact HQ.out); (exact sz_); rintro E w7 ⟨iL, iLc, iLn, iP, iPc, iPn, iD, iDc, iDn, iN, iNc, iNn, iS, iSc, iSn, τi, rfl, hoi, hτi, hb7⟩; rw [← Hv.out] at hoi; rw [← Hv.out]; have hHeldX := Held.of (Ch.trans' (show Ex W0 _ from ext_) hb7 (fun i hi h => (by have h1 := h.1; (try simp only [zq_] at h1); omega)) : Ex W0 w7); have hst := Ch.smRules hb7 rfl sz_; (try simp only [zq_] at hst hτi); obtain ⟨hcD, hfD, hcE, hfE, hzD⟩ := hst; clear hb7); (try go_wp2_with fail); refine outS hK hdH (h := ?_); clear hK K hHeld; intro hHeld; refine GoesX.take 4 53 [] hHeld (h := ?_); refine GoesX.take 5 58 [] hHeld (h := ?_); refine GoesX.take 6 59 [] hHeld (h := ?_); refine GoesX.one 7 (h := fun K hK => ?_); go_simp; refine outS hK hdH (h := ?_); clear hK K hHeld; intro hHeld; refine GoesX.one 8 (h := fun K hK => ?_); go_simp; refine outS hK hdH (h := ?_); clear hK K hHeld; intro hHeld; refine GoesX.take 9 12 [] hHeld (h := ?_); refine GoesX.done (by kernel_rfl) ?_ _; all_goals (obtain ⟨hb, hc, hf, hz⟩ := xh (by assumption : Held W0 _))))))))
           all_goals go_wp2_with fail
           all_goals go_roundw
           repeat (case measure => (simp [intOf]; omega))
           repeat (case rel => (obtain ⟨rows3, hok3⟩ := HKD.out; rw [← Hv.out] at hok3; have hexW := hHeldX.2; exact ⟨k + 1, _, _, _, _, _, _, _, _, _, _, _, _, _, _, _, v.1, rows3, by omega, by go_num, ext_, ⟨sz_, co_, co_, co_, co_, co_, co_, fun i => co_⟩, (hoi.zeros (by (with_reducible repeat (first | exact cR _ _ | apply cA | apply cD | (refine cZ hτi ?_ (by first | omega | (simp only [zq_]; omega)) (by first | omega | (simp only [zq_]; omega))))))).rm.less sz_, hok3, He.out⟩))
   · have e1 : Sw.wldFold fs ls = some y := by rw [hrel, List.drop_of_length_le (by have := hll.out; omega)]; rfl
     have He := Lib.hid e1
     clear hrel e1
     go_wp2_with fail
     refine bodyPost_ret (v := .tuple #[.agg #[.slice eL eLn eLc, .slice eP ePn ePc, .slice eD eDn eDc, .int .i64 y.clock, .slice eN eNn eNc, .slice eS eSn eSc], .bool true]) (by simp [results, Tryz.results41, go_sem, *]) rfl ?_
     refine ⟨_, _, _, _, _, _, _, _, _, _, _, _, _, _, _, by rw [He.out]; rfl, ?_, ext_⟩
     rw [He.out]
     exact (hRY.keep kf_).less (Nat.le_succ _)
end Go.Proofs.YtnnoiagommiapaaGreat
