/- Texts joined: WldI. -/
import Derived.Test.YtnnoiagommiapaaGreatPy45
import Derived.Test.YtnnoiagommiapaaGreatPy40
import Derived.Test.YtnnoiagommiapaaGreatPy29
set_option maxRecDepth 100000
set_option linter.unusedSimpArgs false
set_option linter.unusedVariables false
namespace Go.Proofs.YtnnoiagommiapaaGreat
open Go.RowKit Go
set_option maxHeartbeats 4000000
theorem Ch.saRules {lo k B : Nat} {τ : Nat → Nat} {w w' : World} (h : Ch (SA lo (glue τ k (fun _ => 0))) w w') (hB : w.heap.size = B) :
   (∀ b o, ((⟨b, 0, none⟩ : Addr) = ⟨b - k + k, 0, none⟩) → ¬ ((⟨b, 0, none⟩ : Addr) = ⟨b - B + B, 0, none⟩) → w'.cell? ⟨b, o, none⟩ = w.cell? ⟨b, o, none⟩) ∧
   (∀ b o, ((⟨b, 0, none⟩ : Addr) = ⟨b - k + k, 0, none⟩) → ¬ ((⟨b, 0, none⟩ : Addr) = ⟨b - B + B, 0, none⟩) → w'.frozen? ⟨b, o, none⟩ = w.frozen? ⟨b, o, none⟩) ∧ B ≤ w'.heap.size := by
 subst hB
 have l2 : ∀ b, ((⟨b, 0, none⟩ : Addr) = ⟨b - k + k, 0, none⟩) → ¬ ((⟨b, 0, none⟩ : Addr) = ⟨b - w.heap.size + w.heap.size, 0, none⟩) → w'.heap[b]? = w.heap[b]? := fun b h1 h2 => by
   have h1 : b = b - k + k := congrArg Addr.block h1
   refine h.block b (lt_of_addr h2) fun ⟨_, h3, _⟩ => ?_
   rw [glue, if_neg (by omega)] at h3
   exact absurd h3 (by decide)
 exact ⟨fun b o h1 h2 => World.cell?_of_block (w := w) (a := ⟨b, o, none⟩) (l2 b h1 h2), fun b o h1 h2 => World.frozen?_of_block (w := w) (a := ⟨b, o, none⟩) (l2 b h1 h2), h.size⟩
theorem Ch.sa_keep {lo g : Nat} {τ : Nat → Nat} {w w' : World} (h : Ch (SA lo τ) w w') (hg : g < w.heap.size) (h0 : τ g = 0) : (∀ o, w'.cell? ⟨g, o, none⟩ = w.cell? ⟨g, o, none⟩) ∧ (∀ o, w'.frozen? ⟨g, o, none⟩ = w.frozen? ⟨g, o, none⟩) :=
 ⟨fun o => h.cell (p := ⟨g, o, none⟩) hg (fun ⟨_, h1, _⟩ => by have h1 : 1 ≤ τ g := h1; omega), fun o => h.frozen (p := ⟨g, o, none⟩) hg (fun ⟨_, h1, _⟩ => by have h1 : 1 ≤ τ g := h1; omega)⟩
abbrev HeldT (g : Nat) (W w : World) : Prop := (∀ o, w.cell? ⟨g, o, none⟩ = W.cell? ⟨g, o, none⟩) ∧ g < w.heap.size
theorem HeldT.start {g : Nat} {W : World} (h : g < W.heap.size) : HeldT g W W.drew := ⟨fun _ => rfl, h⟩
theorem HeldT.refl {g : Nat} {W : World} (h : g < W.heap.size) : HeldT g W W := ⟨fun _ => rfl, h⟩
theorem HeldT.drew {g : Nat} {W w : World} (h : HeldT g W w) : HeldT g W w.drew := h
theorem HeldT.alloc {g : Nat} {W w : World} {o : Obj} (h : HeldT g W w) : HeldT g W (w.alloc o) := ⟨fun i => (World.cell?_alloc_lt _ _ _ h.2).trans (h.1 i), by simp; have := h.2; omega⟩
theorem HeldT.set {g : Nat} {W w : World} {p : Addr} {u : Value} (h : HeldT g W w) (hp : p.block ≠ g) : HeldT g W (w.setCell p u) :=
 ⟨fun i => (World.cell?_setCell_other _ _ _ _ (fun e => hp (by rw [e]))).trans (h.1 i), by simpa [World.setCell] using h.2⟩
theorem HeldT.on {g : Nat} {W w w' : World} (h : HeldT g W w) (hc : ∀ o, w'.cell? ⟨g, o, none⟩ = w.cell? ⟨g, o, none⟩) (hz : w.heap.size ≤ w'.heap.size) : HeldT g W w' := ⟨fun o => (hc o).trans (h.1 o), by have := h.2; omega⟩
theorem hdT {p : Prop} (h : p := by ((try dsimp only); (repeat (first | with_reducible assumption | with_reducible exact HeldT.start sz_ | with_reducible exact HeldT.refl sz_ | with_reducible refine HeldT.alloc ?_ | with_reducible refine HeldT.drew ?_ | (refine HeldT.set ?_ (by first | omega | (simp only [zq_]; omega))))))) : p := h
theorem zero6 {τ6 τ' : Nat → Nat} {B l k1 k2 : Nat} (h : ∀ b, b < B → τ6 b = τ' b) (h9 : ∀ b, l ≤ b → (b < k1 ∨ k2 ≤ b) → τ' b = 0) : ∀ b, (l ≤ b ∧ (b < k1 ∨ k2 ≤ b) ∧ b < B) → τ6 b = 0 :=
 fun b hb => (h b hb.2.2).trans (h9 b hb.1 hb.2.1)
theorem cY {l k1 k2 B : Nat} {τ : Nat → Nat} {a w : World} {p : Addr} {u : Value} (hτ : ∀ b, (l ≤ b ∧ (b < k1 ∨ k2 ≤ b) ∧ b < B) → τ b = 0) (h : Ch (fun b => τ b = 0) a w) (h1 : l ≤ p.block) (h2 : p.block < k1 ∨ k2 ≤ p.block) (h3 : p.block < B) : Ch (fun b => τ b = 0) a (w.setCell p u) :=
 h.setCell (.inl (hτ _ ⟨h1, h2, h3⟩)) u
def tellTo (x : Sw.World) (ds : List Int) (j : Nat) : Sw.World := (ds.take j).foldl Sw.tellOne x
theorem ask_same (x : Sw.World) (r : Sw.Req) : (Sw.ask x r).1.first = x.first ∧ (Sw.ask x r).1.gates = x.gates ∧ (Sw.ask x r).1.bag = x.bag := by
 unfold Sw.ask; split <;> exact ⟨rfl, rfl, rfl⟩
theorem tellOne_same (x : Sw.World) (t : Int) : (Sw.tellOne x t).first = x.first ∧ (Sw.tellOne x t).gates = x.gates ∧ (Sw.tellOne x t).bag = x.bag := by
 unfold Sw.tellOne
 split
 · exact ask_same _ _
 · exact ⟨rfl, rfl, rfl⟩
theorem tells_same : ∀ (ts : List Int) (x : Sw.World), (ts.foldl Sw.tellOne x).first = x.first ∧ (ts.foldl Sw.tellOne x).gates = x.gates ∧ (ts.foldl Sw.tellOne x).bag = x.bag
 | [], x => ⟨rfl, rfl, rfl⟩
 | t :: ts, x => by
   obtain ⟨a, b, c⟩ := tells_same ts (Sw.tellOne x t)
   obtain ⟨d, e, f⟩ := tellOne_same x t
   exact ⟨a.trans d, b.trans e, c.trans f⟩
theorem tellTo_step {x : Sw.World} {ds : List Int} {j : Nat} {t : Int} (h : ds[j]? = some t) : tellTo x ds (j + 1) = Sw.tellOne (tellTo x ds j) t := by
 unfold tellTo; rw [List.take_add_one, h]; simp
structure TellS (w : World) (lo : Nat) (τ : Nat → Nat) (F : Option Addr) (Fc Fn : Nat) (G : Option Addr) (Gc Gn : Nat) (X : Option Addr) (Xc Xn : Nat) (z : Sw.World) (wr : World) (bL : Option Addr) (bLc bLn : Nat) (bP : Option Addr) (bPc bPn : Nat) (bD : Option Addr) (bDc bDn : Nat) (bN : Option Addr) (bNc bNn : Nat) (bS : Option Addr) (bSc bSn : Nat) (I : Option Addr) (Ic In : Nat) (τr : Nat → Nat) : Prop where
 c0 : wr.cell? ⟨w.heap.size, 0, none⟩ = some (.slice F Fn Fc)
 mkt : MktAt wr w.heap.size 1 bL bLc bLn bP bPc bPn bD bDc bDn bN bNc bNn bS bSc bSn z.market.clock
 c7 : wr.cell? ⟨w.heap.size, 7, none⟩ = some (.slice I In Ic)
 c8 : wr.cell? ⟨w.heap.size, 8, none⟩ = some (.slice G Gn Gc)
 c9 : wr.cell? ⟨w.heap.size, 9, none⟩ = some (.slice X Xn Xc)
 lr : Lb wr (w.heap.size + 1) 10
 ow : OwM τr wr lo bL bLc bLn bP bPc bPn bD bDc bDn bN bNc bNn bS bSc bSn z.market
 li : OwTQ τr 7 wr lo I Ic In z.lines
 tag : ∀ b, b < w.heap.size → τr b = τ b
 zero : ∀ b, w.heap.size ≤ b → b < w.heap.size + 2 → τr b = 0
 kp : ∀ t, t = 6 ∨ 8 ≤ t → KT τ t lo w wr
 ch : Ch (UpT lo τ) w wr
 sz : w.heap.size + 2 ≤ wr.heap.size
section
variable {w wr w1 : World} {lo : Nat} {τ τr : Nat → Nat} {F G X I : Option Addr} {Fc Fn Gc Gn Xc Xn Ic In : Nat} {bL : Option Addr} {bLc bLn : Nat} {bP : Option Addr} {bPc bPn : Nat} {bD : Option Addr} {bDc bDn : Nat} {bN : Option Addr} {bNc bNn : Nat} {bS : Option Addr} {bSc bSn : Nat} {z : Sw.World}
theorem TellS.ex (h : TellS w lo τ F Fc Fn G Gc Gn X Xc Xn z wr bL bLc bLn bP bPc bPn bD bDc bDn bN bNc bNn bS bSc bSn I Ic In τr) (hb : Ex wr w1) : TellS w lo τ F Fc Fn G Gc Gn X Xc Xn z w1 bL bLc bLn bP bPc bPn bD bDc bDn bN bNc bNn bS bSc bSn I Ic In τr := by
 have hlt : w.heap.size < wr.heap.size := by have := h.sz; omega
 have hk : ∀ i, w1.cell? ⟨w.heap.size, i, none⟩ = wr.cell? ⟨w.heap.size, i, none⟩ := fun i => World.cell?_of_block (w := wr) (a := ⟨w.heap.size, i, none⟩) (hb.block _ hlt (fun h => h))
 exact ⟨(hk _).trans h.c0, h.mkt.keep (kE hb (kR _ _)), (hk _).trans h.c7, (hk _).trans h.c8, (hk _).trans h.c9, h.lr.ex hb, h.ow.keepF (kE hb (kR _ _)), h.li.keepF (kE hb (kR _ _)), h.tag, h.zero, fun t ht => KT.ex hb (h.kp t ht), cE hb h.ch, Nat.le_trans h.sz hb.size⟩
end
theorem sTell_c (aF : Option Addr) (aFc aFn : Nat) (aL : Option Addr) (aLc aLn : Nat) (aP : Option Addr) (aPc aPn : Nat) (aD : Option Addr) (aDc aDn : Nat) (aN : Option Addr) (aNc aNn : Nat) (aS : Option Addr) (aSc aSn : Nat) (aI : Option Addr) (aIc aIn : Nat) (aG : Option Addr) (aGc aGn : Nat) (aB : Option Addr) (aBc aBn : Nat) (x : Sw.World) (k : Int) (lo : Nat) (τ : Nat → Nat) (w : World) (hW : OwW fdS fpS τ w lo aF aFc aFn aL aLc aLn aP aPc aPn aD aDc aDn aN aNc aNn aS aSc aSn aI aIc aIn aG aGc aGn aB aBc aBn x) (hok : Sw.wldOk x = true) (hlo : lo ≤ w.heap.size) : Calls Tryz.prog 147 #[.agg #[.slice aF aFn aFc, .slice aL aLn aLc, .slice aP aPn aPc, .slice aD aDn aDc, .int .i64 x.market.clock, .slice aN aNn aNc, .slice aS aSn aSc, .slice aI aIn aIc, .slice aG aGn aGc, .slice aB aBn aBc], .int .i64 k] w fun E w' => WPost lo τ w w' (fun u => u) E (Sw.tell x k) := by
 obtain ⟨-, -, hG2, -, -, hgok⟩ := wld_parts hok
 have hl4 := hW.gates.rg.len.1
 have L4 := Lib.hid (show aGn = 2 by omega)
 clear hl4 hG2
 cases g1 : Sw.inR k 0 1
 case false =>
   have e : Sw.tell x k = x := by simp [Sw.tell, g1]
   rw [e]; clear e
   go_enter Tryz.func147, Tryz.ntmps147
   go_wp2_with (first | (go_at_call 99; refine (l1In_c _ _ _ _).mono ?_; rintro E w' ⟨rfl, rfl⟩))
   refine bodyPost_ret (v := .agg #[.slice aF aFn aFc, .slice aL aLn aLc, .slice aP aPn aPc, .slice aD aDn aDc, .int .i64 x.market.clock, .slice aN aNn aNc, .slice aS aSn aSc, .slice aI aIn aIc, .slice aG aGn aGc, .slice aB aBn aBc]) (by simp [results, Tryz.results147, go_sem, *]) rfl ?_
   exact ⟨aF, aFc, aFn, aL, aLc, aLn, aP, aPc, aPn, aD, aDc, aDn, aN, aNc, aNn, aS, aSc, aSn, aI, aIc, aIn, aG, aGc, aGn, aB, aBc, aBn, rfl, fun w'' hz => ((hW.keepF kf_).zeros hz).rw_, ext_⟩
 have hk01 := Sw.inR_iff.1 g1
 obtain ⟨kk, rfl⟩ : ∃ kk : Nat, k = kk := ⟨k.toNat, by omega⟩
 obtain ⟨vg, hvg1, hvg2, hvg3⟩ := hW.gates.ex
 obtain ⟨gG, xg, rfl, hgG0, hgG1, hxg, c0, c1', c2', c3', hfG⟩ := at_OGV hvg1.ow (show kk < aGn by have := L4.out; omega)
 obtain ⟨y, hy2⟩ : ∃ y, x.gates[kk]? = some y := ⟨_, List.getElem?_eq_getElem (by have := L4.out; omega)⟩
 obtain ⟨e1, hdone⟩ := hvg3 kk xg y hxg hy2
 obtain ⟨xh, xA, xc, xn⟩ := xg
 dsimp only at e1 hdone c0 c1' c2' c3'
 subst e1
 have hyok := hgok y (List.mem_of_getElem? hy2)
 have htk : ∀ t ∈ y.done, 0 ≤ t ∧ t ≤ 7 := by
   have h1 := hyok
   simp only [Sw.gatOk, Bool.and_eq_true] at h1
   exact fun t ht => ((Sw.rises_iff _ _).1 h1.2).1 t ht |>.1
 have hga : Sw.gateAt x kk = y := by unfold Sw.gateAt; rw [Int.toNat_natCast]; exact Sw.getD_of hy2
 have HE := Lib.hid (show Sw.tell x kk = y.done.foldl Sw.tellOne x from by unfold Sw.tell; rw [g1, if_pos rfl, hga])
 have HTK := Lib.hid htk
 have HL := Lib.hid hdone.ow.1
 have HOK := Lib.hid hok
 have hxb := hdone.ow.rs.big
 have u1 : (0 : Int) ≤ (kk : Int) := by omega
 have u2 : (kk : Int) < (aGn : Int) := by have := L4.out; omega
 have tG : τ gG = 8 := hvg1.tag _ rfl
 clear hga hyok hy2 hxg hgok hk01 hvg1 hvg2 hvg3 htk hok c0 c1' c2'
 go_enter Tryz.func147, Tryz.ntmps147
 go_wp2_with (first | (go_at_call 99; refine (l1In_c _ _ _ _).mono ?_; rintro E w' ⟨rfl, rfl⟩))
 go_loopw [5] (fun i wr => ∃ (j : Nat) (bL : Option Addr) (bLc bLn : Nat) (bP : Option Addr) (bPc bPn : Nat) (bD : Option Addr) (bDc bDn : Nat) (bN : Option Addr) (bNc bNn : Nat) (bS : Option Addr) (bSc bSn : Nat) (I : Option Addr) (Ic In : Nat) (τr : Nat → Nat), j ≤ xn ∧ i = .int .i64 j ∧ TellS w lo τ aF aFc aFn (some ⟨gG, 0, none⟩) aGc aGn aB aBc aBn (tellTo x y.done j) wr bL bLc bLn bP bPc bPn bD bDc bDn bN bNc bNn bS bSc bSn I Ic In τr) (fun i _ => xn - (intOf i).toNat)
 case atStart =>
   have hG := hW.glueL (τ' := fun _ => 0) (Nat.le_refl _)
   refine ⟨0, aL, aLc, aLn, aP, aPc, aPn, aD, aDc, aDn, aN, aNc, aNn, aS, aSc, aSn, aI, aIc, aIn, glue τ w.heap.size (fun _ => 0), Nat.zero_le _, rfl, ?_⟩
   rw [show tellTo x y.done 0 = x from rfl]
   exact ⟨co_, ⟨sz_, co_, co_, co_, co_, co_, co_, fun i => co_⟩, co_, co_, co_, lbc_, hG.mkt.keepF kf_, hG.lines.keepF kf_, fun b hb => if_pos hb, tag0, fun t _ => .of kf_, ext_, sz_⟩
 case round =>
   obtain ⟨j, bL, bLc, bLn, bP, bPc, bPn, bD, bDc, bDn, bN, bNc, bNn, bS, bSc, bSn, I, Ic, In, τr, hj, rfl, hS⟩ := hrel
   obtain ⟨z, hz⟩ : ∃ z, z = tellTo x y.done j := ⟨_, rfl⟩
   rw [← hz] at hS
   have hzk : Sw.WOk z := by rw [hz]; exact Sw.tells_ok _ (Sw.wldOk_iff.1 HOK.out)
   have hsame : z.first = x.first ∧ z.gates = x.gates ∧ z.bag = x.bag := by rw [hz]; exact tells_same _ _
   have HS := Lib.hid hS
   obtain ⟨c0, ⟨m0, m1, m2, m3, m4, m5, m6, mf⟩, c7, c8, c9, lr, ow, li, tag, zero, kp, ch, sz⟩ := hS
   simp only [Nat.reduceAdd] at m2 m3 m4 m5 m6
   have hgk : wr.heap[gG]? = w.heap[gG]? := (kp 8 (.inr (Nat.le_refl _))).block gG hgG0 hgG1 tG
   have c3r : wr.cell? ⟨gG, kk * 4 + 3, none⟩ = some (.slice xA xn xc) := (World.cell?_of_block (w := w) (a := ⟨gG, kk * 4 + 3, none⟩) hgk).trans c3'
   obtain ⟨hcz, hfz⟩ := Lb.rules lr
   have HZ := Lib.hid hz
   have HZK := Lib.hid hzk
   have HSM := Lib.hid hsame
   have KP := Lib.hid kp
   have TAG := Lib.hid tag
   have ZERO := Lib.hid zero
   clear hz hzk hsame kp tag zero c3' hgk
   by_cases hlt : j < xn
   · have hdr := hdone.keep (KP.out (fdS kk) (.inr (fdS_le kk)))
     obtain ⟨gd, td, rfl, hd0, hd1, htd, cd, hfd⟩ := at_OI hdr.ow hlt
     have htd07 := HTK.out td (List.mem_of_getElem? htd)
     obtain ⟨tn, rfl⟩ : ∃ tn : Nat, td = tn := ⟨td.toNat, by omega⟩
     have htn : tn < 8 := by omega
     have HT := Lib.hid (show tellTo x y.done (j + 1) = Sw.tellOne z tn from by rw [HZ.out]; exact tellTo_step htd)
     obtain ⟨rows, hok⟩ := Sw.mktOk_iff.1 HZK.out.mkt
     have hrows := (rows8 hok).1
     have hro := Sw.rowAt_ok (Sw.ownFold_ok hok.fold) (tn : Int)
     have HK := Lib.hid hok
     have e1 : Sw.tellOne z tn = if decide (0 < (Sw.rowAt rows tn).who) && !(Sw.rowAt rows tn).used && decide (Sw.lastOf z.market.nums (Sw.rowAt rows tn).who < 99999) then (Sw.ask z ⟨(Sw.rowAt rows tn).who, Sw.lastOf z.market.nums (Sw.rowAt rows tn).who + 1, 6, tn, 0, 0⟩).1 else z := by
       unfold Sw.tellOne; rw [hrows]
     obtain ⟨row, hrw⟩ : ∃ row, row = Sw.rowAt rows (tn : Int) := ⟨_, rfl⟩
     rw [← hrw] at e1 hro
     have HRW := Lib.hid hrw
     have E1 := Lib.hid e1
     have v1 : (0 : Int) ≤ (j : Int) := by omega
     have v2 : (j : Int) < (xn : Int) := by omega
     have v3 : (0 : Int) ≤ (tn : Int) := by omega
     have v4 : (tn : Int) < 8 := by omega
     have hw5 : 0 ≤ row.who ∧ row.who ≤ 5 := by
       have h1 := hro
       rw [Sw.rowOk_iff] at h1
       omega
     clear hok hrows hro hrw e1 htd htd07
     by_cases w0 : 0 < row.who
     case neg =>
       have E2 := Lib.hid (show Sw.tellOne z tn = z from by rw [E1.out, if_neg (by simp; intro h; omega)])
       have w0' : ¬ 0 < row.who := w0
       go_wp2_with (go_at_call 195; apply Calls.mono; apply (sRowsT_c (m := z.market) (rows := rows) (t := tn)); (apply OwT.rs0 ow.log; (exact kf_)); exact HK.out.fold; exact htn; rintro E w1 ⟨gr, dr, rfl, ⟨hoR, hgR0, hgR, q0, q1, q2⟩, hb⟩; rw [← HRW.out] at q0 q1 q2; obtain ⟨hc, hf, hz⟩ := xy hb)
       go_roundw
       case rel =>
         refine ⟨j + 1, bL, bLc, bLn, bP, bPc, bPn, bD, bDc, bDn, bN, bNc, bNn, bS, bSc, bSn, I, Ic, In, τr, by omega, by go_num, ?_⟩
         rw [HT.out, E2.out]
         exact HS.out.ex ext_
       case measure => simp [intOf]; omega
     case pos =>
       obtain ⟨v, hv⟩ : ∃ v : Nat, row.who = v + 1 := ⟨(row.who - 1).toNat, by omega⟩
       have hv5 : v < 5 := by omega
       obtain rfl : bNn = 5 := by rw [ow.nums.ow.1, HK.out.nlen]
       obtain ⟨gN, nv, rfl, hgN0, hgN, hnv, cN, hfN⟩ := at_OI ow.nums.ow hv5
       have hlast : Sw.lastOf z.market.nums row.who = nv := by unfold Sw.lastOf; rw [show (row.who - 1).toNat = v from by omega]; exact Sw.getD_of hnv
       have HLA := Lib.hid hlast
       have wv : IntKind.i64.wrap (row.who - 1) = (v : Int) := by rw [IntWalk.i64_in _ (by omega)]; omega
       have i0 : (0 : Int) ≤ (v : Int) := by omega
       have i1 : (v : Int) < 5 := by omega
       clear hnv hlast hv
       by_cases n9 : nv < 99999
       case neg =>
         have E2 := Lib.hid (show Sw.tellOne z tn = z from by rw [E1.out, HLA.out, if_neg (by simp; intro h1 h2; omega)])
         go_wp2_with (go_at_call 195; apply Calls.mono; apply (sRowsT_c (m := z.market) (rows := rows) (t := tn)); (apply OwT.rs0 ow.log; (exact kf_)); exact HK.out.fold; exact htn; rintro E w1 ⟨gr, dr, rfl, ⟨hoR, hgR0, hgR, q0, q1, q2⟩, hb⟩; rw [← HRW.out] at q0 q1 q2; obtain ⟨hc, hf, hz⟩ := xy hb)
         go_roundw
         case rel =>
           refine ⟨j + 1, bL, bLc, bLn, bP, bPc, bPn, bD, bDc, bDn, some ⟨gN, 0, none⟩, bNc, 5, bS, bSc, bSn, I, Ic, In, τr, by omega, by go_num, ?_⟩
           rw [HT.out, E2.out]
           exact HS.out.ex ext_
         case measure => simp [intOf]; omega
       case pos =>
         cases hu : row.used
         case true =>
           have E2 := Lib.hid (show Sw.tellOne z tn = z from by rw [E1.out, hu, if_neg (by simp)])
           go_wp2_with (go_at_call 195; apply Calls.mono; apply (sRowsT_c (m := z.market) (rows := rows) (t := tn)); (apply OwT.rs0 ow.log; (exact kf_)); exact HK.out.fold; exact htn; rintro E w1 ⟨gr, dr, rfl, ⟨hoR, hgR0, hgR, q0, q1, q2⟩, hb⟩; rw [← HRW.out] at q0 q1 q2; obtain ⟨hc, hf, hz⟩ := xy hb)
           go_roundw
           case rel =>
             refine ⟨j + 1, bL, bLc, bLn, bP, bPc, bPn, bD, bDc, bDn, some ⟨gN, 0, none⟩, bNc, 5, bS, bSc, bSn, I, Ic, In, τr, by omega, by go_num, ?_⟩
             rw [HT.out, E2.out]
             exact HS.out.ex ext_
           case measure => simp [intOf]; omega
         case false =>
           have E2 := Lib.hid (show Sw.tellOne z tn = (Sw.ask z ⟨row.who, nv + 1, 6, tn, 0, 0⟩).1 from by rw [E1.out, HLA.out, hu, if_pos (by simp; omega)])
           have hno := Sw.numOk_iff.1 (Sw.said_of HK.out (u := row.who) (by omega))
           rw [HLA.out] at hno
           have wv2 : IntKind.i64.wrap (nv + 1) = nv + 1 := IntWalk.i64_in _ (by omega)
           obtain ⟨q, hq⟩ : ∃ q, q = Sw.ask z ⟨row.who, nv + 1, 6, tn, 0, 0⟩ := ⟨_, rfl⟩
           have HQ := Lib.hid hq
           have hI300 : In ≤ 300 := by have h1 := HZK.out.lines; have h2 := li.ow.1; omega
           clear hno hq
           go_upto_region 9 with (go_at_call 195; apply Calls.mono; apply (sRowsT_c (m := z.market) (rows := rows) (t := tn)); (apply OwT.rs0 ow.log; (exact kf_)); exact HK.out.fold; exact htn; rintro E w1 ⟨gr, dr, rfl, ⟨hoR, hgR0, hgR, q0, q1, q2⟩, hb⟩; rw [← HRW.out] at q0 q1 q2; obtain ⟨hc, hf, hz⟩ := xy hb)
           (refine wn_ fun W0 hb0 hc0 hf0 hz0 => ?_)
           have p0 : W0.cell? ⟨w.heap.size, 0, none⟩ = some (.slice aF aFn aFc) := (co_); have p1 : W0.cell? ⟨w.heap.size, 1, none⟩ = some (.slice bL bLn bLc) := (co_); have p2 : W0.cell? ⟨w.heap.size, 2, none⟩ = some (.slice bP bPn bPc) := (co_); have p3 : W0.cell? ⟨w.heap.size, 3, none⟩ = some (.slice bD bDn bDc) := (co_); have p4 : W0.cell? ⟨w.heap.size, 4, none⟩ = some (.int .i64 z.market.clock) := (co_); have p5 : W0.cell? ⟨w.heap.size, 5, none⟩ = some (.slice (some ⟨gN, 0, none⟩) 5 bNc) := (co_); have p6 : W0.cell? ⟨w.heap.size, 6, none⟩ = some (.slice bS bSn bSc) := (co_); have p7 : W0.cell? ⟨w.heap.size, 7, none⟩ = some (.slice I In Ic) := (co_); have p8 : W0.cell? ⟨w.heap.size, 8, none⟩ = some (.slice (some ⟨gG, 0, none⟩) aGn aGc) := (co_); have p9 : W0.cell? ⟨w.heap.size, 9, none⟩ = some (.slice aB aBn aBc) := (co_)
           have pf : ∀ i : Nat, W0.frozen? ⟨w.heap.size, i, none⟩ = false := fun i => co_
           have pN : W0.cell? ⟨gN, v, none⟩ = some (.int .i64 nv) := co_
           have hSq := HS.out.ex (show Ex wr W0 from ext_)
           have hexq : Ex wr W0 := ext_
           clear hb0 hc0 hf0
           obtain ⟨Wq, hWq⟩ : ∃ z, z = W0 := ⟨_, rfl⟩
           subst hWq
           have howG := hSq.ow.glueL (τ' := fun _ => 0) (Nat.le_refl _)
           have hliG := hSq.li.glueL (τ' := fun _ => 0) (Nat.le_refl _)
           have hszq := hSq.sz
           have z0 : glue τr Wq.heap.size (fun _ => 0) w.heap.size = 0 := (if_pos (by omega)).trans (ZERO.out _ (Nat.le_refl _) (by omega))
           have z1 : glue τr Wq.heap.size (fun _ => 0) (w.heap.size + 1) = 0 := (if_pos (by omega)).trans (ZERO.out _ (by omega) (by omega))
           have hZ9 : ∀ b, w.heap.size ≤ b → (b < w.heap.size + 2 ∨ Wq.heap.size ≤ b) → glue τr Wq.heap.size (fun _ => 0) b = 0 := fun b h1 h2 => by
             rcases h2 with h2 | h2
             · exact (if_pos (by omega)).trans (ZERO.out _ h1 h2)
             · exact if_neg (by omega)
           have HZ9 := Lib.hid hZ9
           have hlrq := hSq.lr
           have htagq := Lib.hid hSq.tag
           clear hZ9 hcz hfz
           obtain ⟨hcz, hfz⟩ := Lb.rules hlrq
           (focus (refine wn_ fun W0 hb0 hc0 hf0 hz0 => ?_; refine wp_regionX [] (S := fun w' => HeldT (w.heap.size) W0 w') hdT (fun hHeld => ?_); refine GoesX.take 0 64 [] hHeld (h := ?_); refine GoesX.take 1 65 [] hHeld (h := ?_); refine GoesX.take 2 66 [] hHeld (h := ?_); refine GoesX.take 3 67 [] hHeld (h := ?_); refine GoesX.take 4 68 [] hHeld (h := ?_); refine GoesX.take 5 69 [] hHeld (h := ?_); refine GoesX.take 6 70 [] hHeld (h := ?_); refine GoesX.take 7 71 [] hHeld (h := ?_); refine GoesX.take 10 74 [] hHeld (h := ?_); refine GoesX.ready (rs := [8, 16]) (by kernel_rfl) (by simp) ?_; refine EachX.cons rfl (fun K hK => ?_) ?_; rotate_left; refine EachX.cons rfl (fun K hK => ?_) EachX.nil; (focus (go_simp; refine outS hK hdT (h := ?_); clear hK K hHeld; intro hHeld; refine GoesX.one 8 (h := fun K hK => ?_); go_simp; refine outS hK hdT (h := ?_); clear hK K hHeld; intro hHeld; refine GoesX.take 9 73 [] hHeld (h := ?_); refine GoesX.take 11 75 [] hHeld (h := ?_); refine GoesX.one 12 (h := fun K hK => ?_); go_simp; (go_at_call 142; apply Calls.mono; apply (sAsk_c (x := z) (r := ⟨row.who, nv + 1, 6, tn, 0, 0⟩) (rows := rows) (lo := lo) (τ := glue τr Wq.heap.size (fun _ => 0))); (exact howG.keepF kf_); (exact hliG.keepF kf_); (exact HK.out); (exact hI300); (exact sz_); rintro E w6 ⟨fL, fLc, fLn, fP, fPc, fPn, fD, fDc, fDn, fN, fNc, fNn, fS, fSc, fSn, I6, Ic6, In6, τ6, rfl, ho6, hi6, hτ6, hb6⟩; rw [← HQ.out] at ho6 hi6; rw [← HQ.out]; have hst := Ch.saRules hb6 rfl; (try simp only [zq_] at hst hτ6); obtain ⟨hcE, hfE, hzE⟩ := hst; obtain ⟨hB0, hF0⟩ := Ch.sa_keep hb6 (g := w.heap.size) (by exact sz_) z0; have hHeldX := HeldT.on (by assumption : HeldT w.heap.size W0 _) hB0 hb6.size; obtain ⟨hB1, hF1⟩ := Ch.sa_keep hb6 (g := w.heap.size + 1) (by exact sz_) z1; have Hτ6 := Lib.hid hτ6; clear hτ6); (try go_wp2_with fail); refine outS hK hdT (h := ?_); clear hK K hHeld; intro hHeld; refine GoesX.take 13 63 [] hHeld (h := ?_); refine GoesX.take 14 77 [] hHeld (h := ?_); refine GoesX.take 15 78 [] hHeld (h := ?_); refine GoesX.one 17 (h := fun K hK => ?_); go_simp; refine outS hK hdT (h := ?_); clear hK K hHeld; intro hHeld; refine GoesX.take 18 9 [] hHeld (h := ?_); refine GoesX.done (by kernel_rfl) ?_ _; skip)); rotate_right 1; (focus (go_simp; refine outS hK hdT (h := ?_); clear hK K hHeld; intro hHeld; refine GoesX.take 9 73 [] hHeld (h := ?_); refine GoesX.take 11 75 [] hHeld (h := ?_); refine GoesX.ready (rs := [12, 16]) (by kernel_rfl) (by simp) ?_; refine EachX.cons rfl (fun K hK => ?_) ?_; rotate_left; refine EachX.cons rfl (fun K hK => ?_) EachX.nil; (focus (go_simp; refine outS hK hdT (h := ?_); clear hK K hHeld; intro hHeld; refine GoesX.one 12 (h := fun K hK => ?_); go_simp; (go_at_call 142; apply Calls.mono; apply (sAsk_c (x := z) (r := ⟨row.who, nv + 1, 6, tn, 0, 0⟩) (rows := rows) (lo := lo) (τ := glue τr Wq.heap.size (fun _ => 0))); (exact howG.keepF kf_); (exact hliG.keepF kf_); (exact HK.out); (exact hI300); (exact sz_); rintro E w6 ⟨fL, fLc, fLn, fP, fPc, fPn, fD, fDc, fDn, fN, fNc, fNn, fS, fSc, fSn, I6, Ic6, In6, τ6, rfl, ho6, hi6, hτ6, hb6⟩; rw [← HQ.out] at ho6 hi6; rw [← HQ.out]; have hst := Ch.saRules hb6 rfl; (try simp only [zq_] at hst hτ6); obtain ⟨hcE, hfE, hzE⟩ := hst; obtain ⟨hB0, hF0⟩ := Ch.sa_keep hb6 (g := w.heap.size) (by exact sz_) z0; have hHeldX := HeldT.on (by assumption : HeldT w.heap.size W0 _) hB0 hb6.size; obtain ⟨hB1, hF1⟩ := Ch.sa_keep hb6 (g := w.heap.size + 1) (by exact sz_) z1; have Hτ6 := Lib.hid hτ6; clear hτ6); (try go_wp2_with fail); refine outS hK hdT (h := ?_); clear hK K hHeld; intro hHeld; refine GoesX.take 13 63 [] hHeld (h := ?_); refine GoesX.take 14 77 [] hHeld (h := ?_); refine GoesX.take 15 78 [] hHeld (h := ?_); refine GoesX.one 17 (h := fun K hK => ?_); go_simp; refine outS hK hdT (h := ?_); clear hK K hHeld; intro hHeld; refine GoesX.take 18 9 [] hHeld (h := ?_); refine GoesX.done (by kernel_rfl) ?_ _; skip)); rotate_right 1; (focus (go_simp; (go_at_call 142; apply Calls.mono; apply (sAsk_c (x := z) (r := ⟨row.who, nv + 1, 6, tn, 0, 0⟩) (rows := rows) (lo := lo) (τ := glue τr Wq.heap.size (fun _ => 0))); (exact howG.keepF kf_); (exact hliG.keepF kf_); (exact HK.out); (exact hI300); (exact sz_); rintro E w6 ⟨fL, fLc, fLn, fP, fPc, fPn, fD, fDc, fDn, fN, fNc, fNn, fS, fSc, fSn, I6, Ic6, In6, τ6, rfl, ho6, hi6, hτ6, hb6⟩; rw [← HQ.out] at ho6 hi6; rw [← HQ.out]; have hst := Ch.saRules hb6 rfl; (try simp only [zq_] at hst hτ6); obtain ⟨hcE, hfE, hzE⟩ := hst; obtain ⟨hB0, hF0⟩ := Ch.sa_keep hb6 (g := w.heap.size) (by exact sz_) z0; have hHeldX := HeldT.on (by assumption : HeldT w.heap.size W0 _) hB0 hb6.size; obtain ⟨hB1, hF1⟩ := Ch.sa_keep hb6 (g := w.heap.size + 1) (by exact sz_) z1; have Hτ6 := Lib.hid hτ6; clear hτ6); (try go_wp2_with fail); refine outS hK hdT (h := ?_); clear hK K hHeld; intro hHeld; refine GoesX.take 13 63 [] hHeld (h := ?_); refine GoesX.take 14 77 [] hHeld (h := ?_); refine GoesX.take 15 78 [] hHeld (h := ?_); refine GoesX.one 16 (h := fun K hK => ?_); go_simp; refine outS hK hdT (h := ?_); clear hK K hHeld; intro hHeld; refine GoesX.one 17 (h := fun K hK => ?_); go_simp; refine outS hK hdT (h := ?_); clear hK K hHeld; intro hHeld; refine GoesX.take 18 9 [] hHeld (h := ?_); refine GoesX.done (by kernel_rfl) ?_ _; skip))))))
           all_goals go_wp2_with fail
           all_goals go_roundw
           repeat (case measure => (simp [intOf]; omega))
           all_goals (have hZ6 := zero6 Hτ6.out HZ9.out; have hKp := fun (t : Nat) (ht : t = 6 ∨ 8 ≤ t) => KT.ch hb6 (KT.ex (by exact ext_) (KP.out t ht)) (fun i hi => (by by_cases hiw : i < w.heap.size; (focus (right; have e9 : glue τr Wq.heap.size (fun _ => 0) i = τ i := (if_pos (by omega)).trans (TAG.out i hiw); have h1 := hi.2; rw [e9] at h1; omega)); (focus (left; omega)))); have hC6 : Ch (UpT lo τ) w w6 := Ch.trans' (Ch.ex hSq.ch (by exact ext_)) hb6 (fun i hi h => (by have e9 : glue τr Wq.heap.size (fun _ => 0) i = τ i := (if_pos (by omega)).trans (TAG.out i hi); have h1 := h.2.1; rw [e9] at h1; exact ⟨h.1, h1⟩)); have hL6 := Lb.chk hb6 (by exact lbc_ : Lb _ (w.heap.size + 1) 10) (fun h => (by have h2 := h.2.1; rw [z1] at h2; omega)); refine ⟨j + 1, fL, fLc, fLn, fP, fPc, fPn, fD, fDc, fDn, fN, fNc, fNn, fS, fSc, fSn, I6, Ic6, In6, τ6, by omega, by go_num, ?_⟩; rw [HT.out, E2.out, ← HQ.out]; exact ⟨co_, ⟨sz_, co_, co_, co_, co_, co_, co_, fun i => co_⟩, co_, co_, co_, (by with_reducible repeat (first | exact hL6 | apply Lb.set | apply Lb.drew | apply Lb.alloc)), ho6.zeros (by (with_reducible repeat (first | exact cR _ _ | apply cA | apply cD | (refine cY hZ6 ?_ (by first | omega | (simp only [zq_]; omega)) (by first | omega | (simp only [zq_]; omega)) (by first | omega | (simp only [zq_]; omega)))))), hi6.zeros (by (with_reducible repeat (first | exact cR _ _ | apply cA | apply cD | (refine cY hZ6 ?_ (by first | omega | (simp only [zq_]; omega)) (by first | omega | (simp only [zq_]; omega)) (by first | omega | (simp only [zq_]; omega)))))) (by decide), fun b hb => (Hτ6.out b sz_).trans ((if_pos sz_).trans (TAG.out b hb)), fun b h1 h2 => (Hτ6.out b sz_).trans (HZ9.out b h1 (.inl h2)), fun t ht => (by with_reducible repeat (first | exact hKp t ht | apply tA | apply tD | (refine tS ?_ (Or.inl (by first | omega | (simp only [zq_]; omega)))))), ext_, sz_⟩)
   · have hjx : j = xn := by omega
     have hzt : Sw.tell x kk = z := by rw [HE.out, HZ.out]; unfold tellTo; rw [List.take_of_length_le (by have := HL.out; omega)]
     have HZT := Lib.hid hzt
     clear hzt hjx
     go_wp2_with fail
     refine bodyPost_ret (v := .agg #[.slice aF aFn aFc, .slice bL bLn bLc, .slice bP bPn bPc, .slice bD bDn bDc, .int .i64 z.market.clock, .slice bN bNn bNc, .slice bS bSn bSc, .slice I In Ic, .slice (some ⟨gG, 0, none⟩) aGn aGc, .slice aB aBn aBc]) (by simp [results, Tryz.results147, go_sem, *]) rfl ?_
     rw [HZT.out]
     have key : ∀ wf w'', Ch (BX w.heap.size (w.heap.size + 2)) wr wf → Ch (Zr τ w.heap.size) wf w'' → RW w'' lo aF aFc aFn bL bLc bLn bP bPc bPn bD bDc bDn bN bNc bNn bS bSc bSn I Ic In (some ⟨gG, 0, none⟩) aGc aGn aB aBc aBn z := fun wf w'' hbx hzz => by
       have K : ∀ t, 1 ≤ t → (t = 6 ∨ 8 ≤ t) → KT τ t lo w w'' := fun t h1 ht => (KT.ch hbx (KP.out t ht) (fun i hi => .inl hi.1)).box hzz h1
       have hZr : Ch (Zr τr wr.heap.size) wr w'' := (hbx.mono fun i _ hi => ⟨by have := hi.2; omega, ZERO.out i hi.1 hi.2⟩).trans (hzz.mono fun i _ hi => ⟨by have := hi.1; omega, (TAG.out i hi.1).trans hi.2⟩)
       exact ⟨by rw [HSM.out.1]; exact (hW.first.keep (K 6 (by decide) (.inl rfl))).rs, (ow.keep fun t h1 _ => (KT.refl _ _ _ _).box hZr h1).rm, (li.keep ((KT.refl _ _ _ _).box hZr (by decide))).rs,
         by rw [HSM.out.2.1]; exact (hW.gates.keep (K 8 (by decide) (.inr (by decide))) fun j => K _ (by unfold fdS; omega) (.inr (fdS_le j))).rg, by rw [HSM.out.2.2]; exact (hW.bag.keep (K 9 (by decide) (.inr (by decide))) fun j => K _ (by unfold fpS; omega) (.inr (fpS_le j))).rx⟩
     exact ⟨aF, aFc, aFn, bL, bLc, bLn, bP, bPc, bPn, bD, bDc, bDn, bN, bNc, bNn, bS, bSc, bSn, I, Ic, In, some ⟨gG, 0, none⟩, aGc, aGn, aB, aBc, aBn, rfl, fun w'' hzz => key _ w'' bx_ hzz, ext_⟩
end Go.Proofs.YtnnoiagommiapaaGreat
