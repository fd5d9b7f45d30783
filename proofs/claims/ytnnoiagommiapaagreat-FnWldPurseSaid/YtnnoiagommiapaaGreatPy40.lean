/- Texts joined: WldC, WldD, PtrX, FoldI. -/
import Derived.Test.YtnnoiagommiapaaGreatPy28
import Derived.Test.YtnnoiagommiapaaGreatPy37
import Derived.Test.YtnnoiagommiapaaGreatPy30
import Derived.Test.YtnnoiagommiapaaGreatPy39
import Derived.Test.YtnnoiagommiapaaGreatPy38
set_option maxRecDepth 100000
set_option linter.unusedSimpArgs false
set_option linter.unusedVariables false
namespace Go.Proofs.YtnnoiagommiapaaGreat
open Go.RowKit Go
set_option maxHeartbeats 400000
def AskPost (lo : Nat) (τ : Nat → Nat) (w w' : World) (v : Value → Value) (E : Ending) (F : Option Addr) (Fc Fn : Nat) (G : Option Addr) (Gc Gn : Nat) (X : Option Addr) (Xc Xn : Nat) (z : Sw.World) : Prop :=
 ∃ (bL : Option Addr) (bLc bLn : Nat) (bP : Option Addr) (bPc bPn : Nat) (bD : Option Addr) (bDc bDn : Nat) (bN : Option Addr) (bNc bNn : Nat) (bS : Option Addr) (bSc bSn : Nat) (I : Option Addr) (Ic In : Nat) (τ' : Nat → Nat), E = .returned (v (.agg #[.slice F Fn Fc, .slice bL bLn bLc, .slice bP bPn bPc, .slice bD bDn bDc, .int .i64 z.market.clock, .slice bN bNn bNc, .slice bS bSn bSc, .slice I In Ic, .slice G Gn Gc, .slice X Xn Xc])) ∧
   OwM τ' w' lo bL bLc bLn bP bPc bPn bD bDc bDn bN bNc bNn bS bSc bSn z.market ∧ OwTQ τ' 7 w' lo I Ic In z.lines ∧ (∀ b, b < w.heap.size → τ' b = τ b) ∧ Ch (SA lo τ) w w'
theorem SA.sm {lo b : Nat} {τ : Nat → Nat} (h : SM lo τ b) : SA lo τ b := ⟨h.1, h.2.1, by have := h.2.2; omega, by have := h.2.2; omega⟩
theorem sAsk_c (aF : Option Addr) (aFc aFn : Nat) (aL : Option Addr) (aLc aLn : Nat) (aP : Option Addr) (aPc aPn : Nat) (aD : Option Addr) (aDc aDn : Nat) (aN : Option Addr) (aNc aNn : Nat) (aS : Option Addr) (aSc aSn : Nat) (aI : Option Addr) (aIc aIn : Nat) (aG : Option Addr) (aGc aGn : Nat) (aB : Option Addr) (aBc aBn : Nat) (x : Sw.World) (r : Sw.Req) (rows : List Sw.Row) (lo : Nat) (τ : Nat → Nat) (w : World) (hM : OwM τ w lo aL aLc aLn aP aPc aPn aD aDc aDn aN aNc aNn aS aSc aSn x.market) (hI : OwTQ τ 7 w lo aI aIc aIn x.lines) (hok : Sw.MOk x.market rows) (hln : aIn ≤ 300) (hlo : lo ≤ w.heap.size) : Calls Tryz.prog 142 #[.agg #[.slice aF aFn aFc, .slice aL aLn aLc, .slice aP aPn aPc, .slice aD aDn aDc, .int .i64 x.market.clock, .slice aN aNn aNc, .slice aS aSn aSc, .slice aI aIn aIc, .slice aG aGn aGc, .slice aB aBn aBc], .agg #[.int .i64 r.user, .int .i64 r.n, .int .i64 r.kind, .int .i64 r.ticket, .int .i64 r.who, .int .i64 r.price]] w fun E w' => AskPost lo τ w w' (fun u => .tuple #[u, .int .i64 (Sw.ask x r).2]) E aF aFc aFn aG aGc aGn aB aBc aBn (Sw.ask x r).1 := by
 have hll := Lib.hid hI.ow.1
 cases g1 : Sw.reqOk r
 case false =>
   have e : Sw.ask x r = (x, 0) := by simp [Sw.ask, g1]
   rw [e]; clear e
   obtain ⟨ru, rn, rk, rt, rh, rp⟩ := r
   go_enter Tryz.func142, Tryz.ntmps142
   go_wp2_with (go_at_call 52; apply Calls.mono; apply (sReqOk_c ⟨ru, rn, rk, rt, rh, rp⟩); rintro E w3 ⟨rfl, hb⟩; rw [g1]; obtain ⟨hc, hf, hz⟩ := xy hb)
   refine bodyPost_ret (v := .tuple #[.agg #[.slice aF aFn aFc, .slice aL aLn aLc, .slice aP aPn aPc, .slice aD aDn aDc, .int .i64 x.market.clock, .slice aN aNn aNc, .slice aS aSn aSc, .slice aI aIn aIc, .slice aG aGn aGc, .slice aB aBn aBc], .int .i64 0]) (by simp [results, Tryz.results142, go_sem, *]) rfl ?_
   exact ⟨aL, aLc, aLn, aP, aPc, aPn, aD, aDc, aDn, aN, aNc, aNn, aS, aSc, aSn, aI, aIc, aIn, τ, rfl, hM.keepF kf_, hI.keepF kf_, fun _ _ => rfl, ext_⟩
 by_cases g2 : aIn = 300
 · have g2' : ((aIn : Int) == 300) = true := by simp; omega
   have e : Sw.ask x r = (x, 0) := by simp [Sw.ask, g1, ← hll.out, g2]
   rw [e]; clear e g2
   obtain ⟨ru, rn, rk, rt, rh, rp⟩ := r
   go_enter Tryz.func142, Tryz.ntmps142
   go_wp2_with (go_at_call 52; apply Calls.mono; apply (sReqOk_c ⟨ru, rn, rk, rt, rh, rp⟩); rintro E w3 ⟨rfl, hb⟩; rw [g1]; obtain ⟨hc, hf, hz⟩ := xy hb)
   refine bodyPost_ret (v := .tuple #[.agg #[.slice aF aFn aFc, .slice aL aLn aLc, .slice aP aPn aPc, .slice aD aDn aDc, .int .i64 x.market.clock, .slice aN aNn aNc, .slice aS aSn aSc, .slice aI aIn aIc, .slice aG aGn aGc, .slice aB aBn aBc], .int .i64 0]) (by simp [results, Tryz.results142, go_sem, *]) rfl ?_
   exact ⟨aL, aLc, aLn, aP, aPc, aPn, aD, aDc, aDn, aN, aNc, aNn, aS, aSc, aSn, aI, aIc, aIn, τ, rfl, hM.keepF kf_, hI.keepF kf_, fun _ _ => rfl, ext_⟩
 have g2' : ((aIn : Int) == 300) = false := by simp; omega
 have hlt : x.lines.length < 300 := by rw [← hll.out]; omega
 obtain ⟨y, hy⟩ : ∃ y, y = Sw.doIt x.market r := ⟨_, rfl⟩
 have e : Sw.ask x r = ({ x with market := y.1, lines := x.lines ++ [r] }, y.2) := by simp [Sw.ask, g1, hlt, hy]
 rw [e]
 have Hy := Lib.hid hy
 have HK := Lib.hid hok
 clear e hy hlt hok g2
 have hG := hM.glueL (τ' := fun _ => 0) (Nat.le_refl _)
 have hGI := hI.glueL (τ' := fun _ => 0) (Nat.le_refl _)
 obtain ⟨ru, rn, rk, rt, rh, rp⟩ := r
 dsimp only
 go_enter Tryz.func142, Tryz.ntmps142
 go_wp2_with (go_at_call 52; apply Calls.mono; apply (sReqOk_c ⟨ru, rn, rk, rt, rh, rp⟩); rintro E w3 ⟨rfl, hb⟩; rw [g1]; obtain ⟨hc, hf, hz⟩ := xy hb)
 apply Calls.mono
 apply (sDo_c (m := x.market) (r := ⟨ru, rn, rk, rt, rh, rp⟩) (rows := rows) (τ := glue τ w.heap.size (fun _ => 0)) (lo := lo))
 · exact hG.keepF kf_
 · exact HK.out
 · exact g1
 · exact sz_
 rintro E w6 ⟨bL, bLc, bLn, bP, bPc, bPn, bD, bDc, bDn, bN, bNc, bNn, bS, bSc, bSn, τ6, rfl, ho6, hτ6, hb6⟩
 rw [← Hy.out] at ho6 ⊢
 have hI6 : OwTQ τ6 7 w6 lo aI aIc aIn x.lines := (hGI.keepF (show KF lo w _ from kf_)).sm hb6 (by decide) hτ6
 obtain ⟨hB0, hF0⟩ := Ch.sm_keep hb6 (g := w.heap.size) sz_ (if_neg (by omega))
 obtain ⟨hB2, hF2⟩ := Ch.sm_keep hb6 (g := w.heap.size + 1) sz_ (if_neg (by omega))
 obtain ⟨hB1, hF1⟩ := Ch.sm_keep hb6 (g := w.heap.size + 1 + 1) sz_ (if_neg (by omega))
 have hz6 := hb6.size
 (try simp only [zq_] at hz6)
 have h60 : ∀ b, w.heap.size ≤ b → b < w.heap.size + 3 → τ6 b = 0 := fun b h1 h2 => (hτ6 b sz_).trans (if_neg (by omega))
 have hcA : Ch (SA lo τ) w w6 := Ch.trans' (show Ch (SA lo τ) w _ from ext_) hb6 (fun i hi h => SA.sm (by
   obtain ⟨h1, h2, h3⟩ := h
   unfold glue at h2 h3
   rw [if_pos (by exact hi)] at h2 h3
   exact ⟨h1, h2, h3⟩))
 have hbK := hb6
 clear hb6
 go_upto_region 5 with fail
 (refine wn_ fun W0 hb0 hc0 hf0 hz0 => ?_)
 have hLr : Lb W0 (w.heap.size + 1 + 1) 10 := by
   refine Lb.ex ?_ hb0
   repeat apply Lb.set
   apply Lb.alloc
   refine Lb.chk hbK ?_ (fun h => (by have h2 := h.2.1; rw [glue, if_neg (by omega)] at h2; omega))
   exact lbc_
 have p0 : W0.cell? ⟨w.heap.size, 0, none⟩ = some (.slice aF aFn aFc) := (co_); have p1 : W0.cell? ⟨w.heap.size, 1, none⟩ = some (.slice bL bLn bLc) := (co_); have p2 : W0.cell? ⟨w.heap.size, 2, none⟩ = some (.slice bP bPn bPc) := (co_); have p3 : W0.cell? ⟨w.heap.size, 3, none⟩ = some (.slice bD bDn bDc) := (co_); have p4 : W0.cell? ⟨w.heap.size, 4, none⟩ = some (.int .i64 y.1.clock) := (co_); have p5 : W0.cell? ⟨w.heap.size, 5, none⟩ = some (.slice bN bNn bNc) := (co_); have p6 : W0.cell? ⟨w.heap.size, 6, none⟩ = some (.slice bS bSn bSc) := (co_); have p7 : W0.cell? ⟨w.heap.size, 7, none⟩ = some (.slice aI aIn aIc) := (co_); have p8 : W0.cell? ⟨w.heap.size, 8, none⟩ = some (.slice aG aGn aGc) := (co_); have p9 : W0.cell? ⟨w.heap.size, 9, none⟩ = some (.slice aB aBn aBc) := (co_)
 have pr : W0.cell? ⟨w.heap.size + 1, 0, none⟩ = some (.int .i64 ru) := co_
 have pr1 : W0.cell? ⟨w.heap.size + 1, 1, none⟩ = some (.int .i64 rn) := co_
 have pr2 : W0.cell? ⟨w.heap.size + 1, 2, none⟩ = some (.int .i64 rk) := co_
 have pr3 : W0.cell? ⟨w.heap.size + 1, 3, none⟩ = some (.int .i64 rt) := co_
 have pr4 : W0.cell? ⟨w.heap.size + 1, 4, none⟩ = some (.int .i64 rh) := co_
 have pr5 : W0.cell? ⟨w.heap.size + 1, 5, none⟩ = some (.int .i64 rp) := co_
 have pf : ∀ i : Nat, W0.frozen? ⟨w.heap.size, i, none⟩ = false := fun i => co_
 have hI7 := hI6.box (g0 := w.heap.size) (g1 := w.heap.size + 3) (show Ch (BX w.heap.size (w.heap.size + 3)) w6 W0 from bx_) h60 (by decide)
 have ho7 := ho6.box (g0 := w.heap.size) (g1 := w.heap.size + 3) (show Ch (BX w.heap.size (w.heap.size + 3)) w6 W0 from bx_) h60
 have hcB : Ch (SA lo τ) w W0 := ext_
 have hz7 : w6.heap.size ≤ W0.heap.size := sz_
 have hzW : w.heap.size + 3 ≤ W0.heap.size := sz_
 clear hc0 hf0 hb0 hB0 hB1 hB2 hF0 hF1 hF2 hc hf hb hbK hcA
 obtain ⟨hcz, hfz⟩ := Lb.rules hLr
 go_wp2_with (at_builtin; apply wpList_app (lo := lo) el_Q one_Q rfl rfl rfl rfl; (exact Ow.keep hI7.ow kf_); (refine Rs.new [⟨ru, rn, rk, rt, rh, rp⟩] (by (first | with_reducible rfl | (simp only [zq_]; done) | (simp only [zq_]; omega))) rfl rfl (fun _ => rfl) (by omega)); omega; (exact sz_); intro A1 c1 w7 ho1 hch1 hat1 hex1 hlow1; clear hex1 hlow1; obtain ⟨hC0, hG0⟩ := Ch.atA_keep hch1 (g := w.heap.size) (by exact sz_) (Ow.apart hI.ow (by omega)); obtain ⟨hC1, hG1⟩ := Ch.atA_keep hch1 (g := w.heap.size + 1 + 1) (by exact sz_) (Ow.apart hI.ow (by omega)); have hzA := hch1.size; (try simp only [zq_] at hzA))
 refine bodyPost_ret (v := .tuple #[.agg #[.slice aF aFn aFc, .slice bL bLn bLc, .slice bP bPn bPc, .slice bD bDn bDc, .int .i64 y.1.clock, .slice bN bNn bNc, .slice bS bSn bSc, .slice A1 (aIn + 1) c1, .slice aG aGn aGc, .slice aB aBn aBc], .int .i64 y.2]) (by simp [results, Tryz.results142, go_sem, *]) rfl ?_
 have hlA : ∀ a, aI = some a → a.block < W0.heap.size := fun a ha => (hI7.ow.blk ha).2
 have m2 := OwM.app (τ' := fun _ => 7) (ho7.keepF (show KF lo W0 _ from kf_)) hch1 hI6.tag (by decide) (fun a ha => Nat.lt_of_lt_of_le (hlA a ha) sz_)
 have i2 := OwT.full ho1 (hI7.keepF (show KF lo W0 _ from kf_)) hat1
 have hS := Ch.trans' (show Ch (SA lo τ) w _ from ext_) hch1 (fun i _ ⟨a, ha, e⟩ => by
   have h1 := hI.ow.blk ha; have h2 := hI.tag a ha
   subst e
   exact ⟨h1.1, by omega, by omega, by omega⟩)
 exact ⟨bL, bLc, bLn, bP, bPc, bPn, bD, bDc, bDn, bN, bNc, bNn, bS, bSc, bSn, A1, c1, aIn + 1, _, rfl, m2.box (g0 := w.heap.size) (g1 := w.heap.size + 3) bx_ (tag1 h60 sz_), i2.box (g0 := w.heap.size) (g1 := w.heap.size + 3) bx_ (tag1 h60 sz_) (by decide), fun b hb => (if_pos sz_).trans ((hτ6 b sz_).trans (if_pos hb)), ext_⟩
set_option maxHeartbeats 4000000
theorem sTickW_c (aF : Option Addr) (aFc aFn : Nat) (aL : Option Addr) (aLc aLn : Nat) (aP : Option Addr) (aPc aPn : Nat) (aD : Option Addr) (aDc aDn : Nat) (aN : Option Addr) (aNc aNn : Nat) (aS : Option Addr) (aSc aSn : Nat) (aI : Option Addr) (aIc aIn : Nat) (aG : Option Addr) (aGc aGn : Nat) (aB : Option Addr) (aBc aBn : Nat) (x : Sw.World) (rows : List Sw.Row) (lo : Nat) (τ : Nat → Nat) (w : World) (hM : OwM τ w lo aL aLc aLn aP aPc aPn aD aDc aDn aN aNc aNn aS aSc aSn x.market) (hI : OwTQ τ 7 w lo aI aIc aIn x.lines) (hok : Sw.MOk x.market rows) (hln : aIn ≤ 300) (hlo : lo ≤ w.heap.size) : Calls Tryz.prog 143 #[.agg #[.slice aF aFn aFc, .slice aL aLn aLc, .slice aP aPn aPc, .slice aD aDn aDc, .int .i64 x.market.clock, .slice aN aNn aNc, .slice aS aSn aSc, .slice aI aIn aIc, .slice aG aGn aGc, .slice aB aBn aBc]] w fun E w' => AskPost lo τ w w' (fun u => u) E aF aFc aFn aG aGc aGn aB aBc aBn (Sw.tickW x) := by
 have hll := Lib.hid hI.ow.1
 have hsz := MOk_len hok
 have hl1 := hM.deals.ow.1
 have hl2 := hM.purses.ow.1
 have hD4 : aDn ≤ 4194304 := by omega
 have hP4 : aPn ≤ 4194304 := by omega
 have hck := hok.clk
 clear hsz hl1 hl2
 by_cases g1 : x.market.clock = 99999
 · have g1' : (x.market.clock == 99999) = true := by simp [g1]
   have e : Sw.tickW x = x := by simp [Sw.tickW, g1]
   rw [e]; clear e g1
   go_enter Tryz.func143, Tryz.ntmps143
   go_wp2_with fail
   refine bodyPost_ret (v := .agg #[.slice aF aFn aFc, .slice aL aLn aLc, .slice aP aPn aPc, .slice aD aDn aDc, .int .i64 x.market.clock, .slice aN aNn aNc, .slice aS aSn aSc, .slice aI aIn aIc, .slice aG aGn aGc, .slice aB aBn aBc]) (by simp [results, Tryz.results143, go_sem, *]) rfl ?_
   exact ⟨aL, aLc, aLn, aP, aPc, aPn, aD, aDc, aDn, aN, aNc, aNn, aS, aSc, aSn, aI, aIc, aIn, τ, rfl, hM.keepF kf_, hI.keepF kf_, fun _ _ => rfl, ext_⟩
 have g1' : (x.market.clock == 99999) = false := by simp [g1]
 by_cases g2 : aIn = 300
 · have g2' : ((aIn : Int) == 300) = true := by simp; omega
   have e : Sw.tickW x = x := by simp [Sw.tickW, ← hll.out, g2]
   rw [e]; clear e g2 g1
   go_enter Tryz.func143, Tryz.ntmps143
   go_wp2_with fail
   refine bodyPost_ret (v := .agg #[.slice aF aFn aFc, .slice aL aLn aLc, .slice aP aPn aPc, .slice aD aDn aDc, .int .i64 x.market.clock, .slice aN aNn aNc, .slice aS aSn aSc, .slice aI aIn aIc, .slice aG aGn aGc, .slice aB aBn aBc]) (by simp [results, Tryz.results143, go_sem, *]) rfl ?_
   exact ⟨aL, aLc, aLn, aP, aPc, aPn, aD, aDc, aDn, aN, aNc, aNn, aS, aSc, aSn, aI, aIc, aIn, τ, rfl, hM.keepF kf_, hI.keepF kf_, fun _ _ => rfl, ext_⟩
 have g2' : ((aIn : Int) == 300) = false := by simp; omega
 have hlt : x.lines.length < 300 := by rw [← hll.out]; omega
 have e : Sw.tickW x = { x with market := Sw.tick x.market, lines := x.lines ++ [Sw.reqZ] } := by simp [Sw.tickW, g1, hlt]
 rw [e]
 clear e hlt g1 g2 hok
 have hG := hM.glueL (τ' := fun _ => 0) (Nat.le_refl _)
 have hGI := hI.glueL (τ' := fun _ => 0) (Nat.le_refl _)
 go_enter Tryz.func143, Tryz.ntmps143
 go_wp2_with fail
 apply Calls.mono
 apply (sTick_c (m := x.market) (τ := glue τ w.heap.size (fun _ => 0)) (lo := lo))
 · exact hG.keepF kf_
 · exact hck.1
 · exact hck.2
 · exact hD4
 · exact hP4
 · exact sz_
 rintro E w6 ⟨A6, c6, τ6, rfl, ho6, hτ6, hb6⟩
 have hI6 : OwTQ τ6 7 w6 lo aI aIc aIn x.lines := (hGI.keepF (show KF lo w _ from kf_)).sm hb6 (by decide) hτ6
 obtain ⟨hB0, hF0⟩ := Ch.sm_keep hb6 (g := w.heap.size) sz_ (if_neg (by omega))
 obtain ⟨hB1, hF1⟩ := Ch.sm_keep hb6 (g := w.heap.size + 1) sz_ (if_neg (by omega))
 have hz6 := hb6.size
 (try simp only [zq_] at hz6)
 have h60 : ∀ b, w.heap.size ≤ b → b < w.heap.size + 2 → τ6 b = 0 := fun b h1 h2 => (hτ6 b sz_).trans (if_neg (by omega))
 have hcA : Ch (SA lo τ) w w6 := Ch.trans' (show Ch (SA lo τ) w _ from ext_) hb6 (fun i hi h => SA.sm (by
   obtain ⟨h1, h2, h3⟩ := h
   unfold glue at h2 h3
   rw [if_pos (by exact hi)] at h2 h3
   exact ⟨h1, h2, h3⟩))
 have hbK := hb6
 clear hb6
 go_upto_region 4 with fail
 (refine wn_ fun W0 hb0 hc0 hf0 hz0 => ?_)
 have hLr : Lb W0 (w.heap.size + 1) 10 := by
   refine Lb.ex ?_ hb0
   repeat apply Lb.set
   refine Lb.chk hbK ?_ (fun h => (by have h2 := h.2.1; rw [glue, if_neg (by omega)] at h2; omega))
   exact lbc_
 have p0 : W0.cell? ⟨w.heap.size, 0, none⟩ = some (.slice aF aFn aFc) := (co_); have p1 : W0.cell? ⟨w.heap.size, 1, none⟩ = some (.slice aL aLn aLc) := (co_); have p2 : W0.cell? ⟨w.heap.size, 2, none⟩ = some (.slice A6 aPn c6) := (co_); have p3 : W0.cell? ⟨w.heap.size, 3, none⟩ = some (.slice aD aDn aDc) := (co_); have p4 : W0.cell? ⟨w.heap.size, 4, none⟩ = some (.int .i64 (x.market.clock + 1)) := (co_); have p5 : W0.cell? ⟨w.heap.size, 5, none⟩ = some (.slice aN aNn aNc) := (co_); have p6 : W0.cell? ⟨w.heap.size, 6, none⟩ = some (.slice aS aSn aSc) := (co_); have p7 : W0.cell? ⟨w.heap.size, 7, none⟩ = some (.slice aI aIn aIc) := (co_); have p8 : W0.cell? ⟨w.heap.size, 8, none⟩ = some (.slice aG aGn aGc) := (co_); have p9 : W0.cell? ⟨w.heap.size, 9, none⟩ = some (.slice aB aBn aBc) := (co_)
 have pf : ∀ i : Nat, W0.frozen? ⟨w.heap.size, i, none⟩ = false := fun i => co_
 have hI7 := hI6.box (g0 := w.heap.size) (g1 := w.heap.size + 2) (show Ch (BX w.heap.size (w.heap.size + 2)) w6 W0 from bx_) h60 (by decide)
 have ho7 := ho6.box (g0 := w.heap.size) (g1 := w.heap.size + 2) (show Ch (BX w.heap.size (w.heap.size + 2)) w6 W0 from bx_) h60
 have hcB : Ch (SA lo τ) w W0 := ext_
 have hz7 : w6.heap.size ≤ W0.heap.size := sz_
 have hzW : w.heap.size + 2 ≤ W0.heap.size := sz_
 clear hc0 hf0 hb0 hB0 hB1 hF0 hF1 hbK hcA
 obtain ⟨hcz, hfz⟩ := Lb.rules hLr
 go_wp2_with (at_builtin; apply wpList_app (lo := lo) el_Q one_Q rfl rfl rfl rfl; (exact Ow.keep hI7.ow kf_); (refine Rs.new [Sw.reqZ] (by (first | with_reducible rfl | (simp only [zq_]; done) | (simp only [zq_]; omega))) rfl rfl (fun _ => rfl) (by omega)); omega; (exact sz_); intro A1 c1 w7 ho1 hch1 hat1 hex1 hlow1; clear hex1 hlow1; obtain ⟨hC0, hG0⟩ := Ch.atA_keep hch1 (g := w.heap.size) (by exact sz_) (Ow.apart hI.ow (by omega)); obtain ⟨hC1, hG1⟩ := Ch.atA_keep hch1 (g := w.heap.size + 1) (by exact sz_) (Ow.apart hI.ow (by omega)); have hzA := hch1.size; (try simp only [zq_] at hzA))
 refine bodyPost_ret (v := .agg #[.slice aF aFn aFc, .slice aL aLn aLc, .slice A6 aPn c6, .slice aD aDn aDc, .int .i64 (x.market.clock + 1), .slice aN aNn aNc, .slice aS aSn aSc, .slice A1 (aIn + 1) c1, .slice aG aGn aGc, .slice aB aBn aBc]) (by simp [results, Tryz.results143, go_sem, *]) rfl ?_
 have hlA : ∀ a, aI = some a → a.block < W0.heap.size := fun a ha => (hI7.ow.blk ha).2
 have m2 := OwM.app (τ' := fun _ => 7) (ho7.keepF (show KF lo W0 _ from kf_)) hch1 hI6.tag (by decide) (fun a ha => Nat.lt_of_lt_of_le (hlA a ha) sz_)
 have i2 := OwT.full ho1 (hI7.keepF (show KF lo W0 _ from kf_)) hat1
 have hS := Ch.trans' (show Ch (SA lo τ) w _ from ext_) hch1 (fun i _ ⟨a, ha, e⟩ => by
   have h1 := hI.ow.blk ha; have h2 := hI.tag a ha
   subst e
   exact ⟨h1.1, by omega, by omega, by omega⟩)
 exact ⟨aL, aLc, aLn, A6, c6, aPn, aD, aDc, aDn, aN, aNc, aNn, aS, aSc, aSn, A1, c1, aIn + 1, _, rfl, m2.box (g0 := w.heap.size) (g1 := w.heap.size + 2) bx_ (tag1 h60 sz_), i2.box (g0 := w.heap.size) (g1 := w.heap.size + 2) bx_ (tag1 h60 sz_) (by decide), fun b hb => (if_pos sz_).trans ((hτ6 b sz_).trans (if_pos hb)), ext_⟩
end Go.Proofs.YtnnoiagommiapaaGreat
namespace Go.Proofs.YtnnoiagommiapaaGreat
open Go.RowKit Go
set_option maxHeartbeats 4000000
def WAsked (g lo : Nat) (τ0 τ : Nat → Nat) (w0 w w' : World) (E : Ending) (v : Value) (F : Option Addr) (Fc Fn : Nat) (G : Option Addr) (Gc Gn : Nat) (X : Option Addr) (Xc Xn : Nat) (z : Sw.World) : Prop :=
 ∃ (bL : Option Addr) (bLc bLn : Nat) (bP : Option Addr) (bPc bPn : Nat) (bD : Option Addr) (bDc bDn : Nat) (bN : Option Addr) (bNc bNn : Nat) (bS : Option Addr) (bSc bSn : Nat) (I : Option Addr) (Ic In : Nat) (τ' : Nat → Nat), E = .returned v ∧ WS g lo τ0 w0 F Fc Fn bL bLc bLn bP bPc bPn bD bDc bDn bN bNc bNn bS bSc bSn I Ic In G Gc Gn X Xc Xn z τ' w' ∧ (∀ b, b < w.heap.size → τ' b = τ b) ∧ ∀ t, t = 6 ∨ 8 ≤ t → KT τ t lo w w'
section
variable {g lo : Nat} {τ0 τ : Nat → Nat} {w0 w : World} {aF : Option Addr} {aFc aFn : Nat} {aL : Option Addr} {aLc aLn : Nat} {aP : Option Addr} {aPc aPn : Nat} {aD : Option Addr} {aDc aDn : Nat} {aN : Option Addr} {aNc aNn : Nat} {aS : Option Addr} {aSc aSn : Nat} {aI : Option Addr} {aIc aIn : Nat} {aG : Option Addr} {aGc aGn : Nat} {aB : Option Addr} {aBc aBn : Nat} {x : Sw.World}
end
end Go.Proofs.YtnnoiagommiapaaGreat
namespace Go.Proofs.YtnnoiagommiapaaGreat
open Go.RowKit Go
set_option maxHeartbeats 8000000
section
variable {g o n lo : Nat} {τ0 τ : Nat → Nat} {w0 w w' : World} {aL : Option Addr} {aLc aLn : Nat} {aP : Option Addr} {aPc aPn : Nat} {aD : Option Addr} {aDc aDn : Nat} {aN : Option Addr} {aNc aNn : Nat} {aS : Option Addr} {aSc aSn : Nat} {m : Sw.Mkt}
end
end Go.Proofs.YtnnoiagommiapaaGreat
