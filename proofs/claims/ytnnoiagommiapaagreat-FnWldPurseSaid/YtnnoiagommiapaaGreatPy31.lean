/- Texts joined: DoG, PtrC, PtrD, PtrE, PtrF, PtrG, PtrH. -/
import Derived.Test.YtnnoiagommiapaaGreatPy29
import Derived.Test.YtnnoiagommiapaaGreatPy23
import Derived.Test.YtnnoiagommiapaaGreatPy30
import Derived.Test.YtnnoiagommiapaaGreatPy3
import Derived.Deep.CutBlock
import Derived.Deep.DeepCutAuto
set_option maxRecDepth 100000
set_option linter.unusedSimpArgs false
set_option linter.unusedVariables false
namespace Go.Proofs.YtnnoiagommiapaaGreat
open Go.RowKit Go
set_option maxHeartbeats 2000000
theorem sSettle_c (aL : Option Addr) (aLc aLn : Nat) (aP : Option Addr) (aPc aPn : Nat) (aD : Option Addr) (aDc aDn : Nat) (aN : Option Addr) (aNc aNn : Nat) (aS : Option Addr) (aSc aSn : Nat) (m : Sw.Mkt) (ru rn rk : Int) (t : Nat) (rh rp : Int) (rows : List Sw.Row) (lo : Nat) (τ : Nat → Nat) (w : World) (hM : OwM τ w lo aL aLc aLn aP aPc aPn aD aDc aDn aN aNc aNn aS aSc aSn m) (hok : Sw.MOk m rows) (ht : t < 8) (hlo : lo ≤ w.heap.size) : Calls Tryz.prog 233 #[.agg #[.slice aL aLn aLc, .slice aP aPn aPc, .slice aD aDn aDc, .int .i64 m.clock, .slice aN aNn aNc, .slice aS aSn aSc], .agg #[.int .i64 ru, .int .i64 rn, .int .i64 rk, .int .i64 t, .int .i64 rh, .int .i64 rp]] w fun E w' => MktPost lo τ w w' E (Sw.settle m ⟨ru, rn, rk, t, rh, rp⟩ (Sw.dealAt m.deals t)) := by
 have hML := hM.log
 have hMD := hM.deals
 have hMP := hM.purses
 have hd8 : m.deals.length ≤ 8 := hok.dlen
 have hL40 : m.log.length ≤ 40 := (Sw.ownFold_some.1 hok.fold).1
 have l1 := hM.log.ow.1
 have l3 := hM.deals.ow.1
 have hp5 : aPn ≤ 4194304 := by have := hM.purses.ow.1; have := (Sw.monOk_iff.1 hok.mon).1; omega
 have i0 : (0 : Int) ≤ (t : Int) := by omega
 have i1 : (t : Int) < 8 := by omega
 cases h3 : Sw.dealAt m.deals t
 case none =>
   have e : Sw.settle m ⟨ru, rn, rk, t, rh, rp⟩ none = (m, 3) := rfl
   rw [e]
   have HD := Lib.hid (dealIx_none h3)
   clear e l3 h3 hok l1
   go_enter Tryz.func233, Tryz.ntmps233
   go_wp2_with (go_at_call 266; apply Calls.mono; apply sFind_c; (apply OwT.rs0 hMD; (exact kf_)); rintro E w' ⟨rfl, rfl⟩; rw [HD.out])
   refine bodyPost_ret (v := .tuple #[.agg #[.slice aL aLn aLc, .slice aP aPn aPc, .slice aD aDn aDc, .int .i64 m.clock, .slice aN aNn aNc, .slice aS aSn aSc], .int .i64 3]) (by simp [results, Tryz.results233, go_sem, *]) rfl ?_
   exact ⟨_, _, _, _, _, _, _, _, _, _, _, _, _, _, _, τ, rfl, hM.keepF kf_, fun _ _ => rfl, ext_⟩
 rename_i kd
 obtain ⟨d, hd, hdt⟩ := Sw.dealAt_some h3
 have hk : kd < aDn := by have := (List.getElem?_eq_some_iff.1 hd).1; omega
 have HD := Lib.hid (dealIx_some h3)
 have hgd := Sw.getD_of (z := Sw.dealZ) hd
 obtain ⟨gD, y, rfl, hloD, hltD, hy, d0, d1, d2, d3, d4, hfD⟩ := at_OD hM.deals.ow hk
 obtain rfl : y = d := Option.some.inj (hy.symm.trans hd)
 have hby := (Sw.dealOk_iff.1 (hok.deals.get hd)).2.2.2.2.2
 have hby0 : 0 ≤ y.buyer := by omega
 clear hok hby
 have k0 : (0 : Int) ≤ (kd : Int) := by omega
 have k1 : (kd : Int) < (aDn : Int) := by omega
 have k2 : ¬ (kd : Int) < 0 := by omega
 by_cases h4 : y.buyer = 0
 · have g4 : (y.buyer == 0) = true := by simpa using h4
   have e : Sw.settle m ⟨ru, rn, rk, t, rh, rp⟩ (some kd) = (m, 3) := by unfold Sw.settle; dsimp only; rw [hgd, if_pos (by simp [Sw.held, h4])]
   rw [e]
   clear e l3 h3 hd hdt hy hgd l1 h4
   go_enter Tryz.func233, Tryz.ntmps233
   go_wp2_with (go_at_call 266; apply Calls.mono; apply sFind_c; (apply OwT.rs0 hMD; (exact kf_)); rintro E w' ⟨rfl, rfl⟩; rw [HD.out])
   refine bodyPost_ret (v := .tuple #[.agg #[.slice aL aLn aLc, .slice aP aPn aPc, .slice (some ⟨gD, 0, none⟩) aDn aDc, .int .i64 m.clock, .slice aN aNn aNc, .slice aS aSn aSc], .int .i64 3]) (by simp [results, Tryz.results233, go_sem, *]) rfl ?_
   exact ⟨_, _, _, _, _, _, _, _, _, _, _, _, _, _, _, τ, rfl, hM.keepF kf_, fun _ _ => rfl, ext_⟩
 have g4 : (y.buyer == 0) = false := by simpa using h4
 have hh : ¬ Sw.held y = false := by simp [Sw.held]; omega
 by_cases h5 : y.seller = ru
 case neg =>
   have g5 : (y.seller != ru) = true := by simpa using h5
   have e : Sw.settle m ⟨ru, rn, rk, t, rh, rp⟩ (some kd) = (m, 2) := by unfold Sw.settle; dsimp only; rw [hgd, if_neg hh, if_pos h5]
   rw [e]
   clear e l3 h3 hd hdt hy hgd h5 hh l1
   go_enter Tryz.func233, Tryz.ntmps233
   go_wp2_with (go_at_call 266; apply Calls.mono; apply sFind_c; (apply OwT.rs0 hMD; (exact kf_)); rintro E w' ⟨rfl, rfl⟩; rw [HD.out])
   refine bodyPost_ret (v := .tuple #[.agg #[.slice aL aLn aLc, .slice aP aPn aPc, .slice (some ⟨gD, 0, none⟩) aDn aDc, .int .i64 m.clock, .slice aN aNn aNc, .slice aS aSn aSc], .int .i64 2]) (by simp [results, Tryz.results233, go_sem, *]) rfl ?_
   exact ⟨_, _, _, _, _, _, _, _, _, _, _, _, _, _, _, τ, rfl, hM.keepF kf_, fun _ _ => rfl, ext_⟩
 have g5 : (y.seller != ru) = false := by simpa using h5
 by_cases h6 : m.log.length = 40
 · have g6 : ((aLn : Int) == 40) = true := by simp; omega
   have e : Sw.settle m ⟨ru, rn, rk, t, rh, rp⟩ (some kd) = (m, 6) := by unfold Sw.settle; dsimp only; rw [hgd, if_neg hh, if_neg (by simpa using h5), if_pos h6]
   rw [e]
   clear e l3 h3 hd hdt hy hgd h5 hh l1 h6
   go_enter Tryz.func233, Tryz.ntmps233
   go_wp2_with (go_at_call 266; apply Calls.mono; apply sFind_c; (apply OwT.rs0 hMD; (exact kf_)); rintro E w' ⟨rfl, rfl⟩; rw [HD.out])
   refine bodyPost_ret (v := .tuple #[.agg #[.slice aL aLn aLc, .slice aP aPn aPc, .slice (some ⟨gD, 0, none⟩) aDn aDc, .int .i64 m.clock, .slice aN aNn aNc, .slice aS aSn aSc], .int .i64 6]) (by simp [results, Tryz.results233, go_sem, *]) rfl ?_
   exact ⟨_, _, _, _, _, _, _, _, _, _, _, _, _, _, _, τ, rfl, hM.keepF kf_, fun _ _ => rfl, ext_⟩
 have g6 : ((aLn : Int) == 40) = false := by simp; omega
 have e : Sw.settle m ⟨ru, rn, rk, t, rh, rp⟩ (some kd) = ({ m with purses := Sw.monTurn m.purses y.seller y.price, log := m.log ++ [⟨2, t, y.buyer, y.price⟩], deals := m.deals.eraseIdx kd }, 1) := by unfold Sw.settle; dsimp only; rw [hgd, if_neg hh, if_neg (by simpa using h5), if_neg h6]
 rw [e]
 have hl40 : aLn ≤ 40 := by omega
 have hn8 : aDn ≤ 4194304 := by omega
 have hT := Lib.hid hdt
 clear e l3 h3 hd hdt hy hgd h5 hh l1 h6
 go_enter Tryz.func233, Tryz.ntmps233
 go_wp2_with (first | (go_at_call 266; apply Calls.mono; apply sFind_c; (apply OwT.rs0 hMD; (exact kf_)); rintro E w' ⟨rfl, rfl⟩; rw [HD.out]) | (go_at_call 229; apply Calls.mono; apply sMonTurn_c; (exact rdw_); (first | assumption | omega); rintro E w1 ⟨A', c', rfl, hoP, hb⟩; obtain ⟨hc, hf, hz⟩ := xy hb) | (at_builtin; apply wpList_app (lo := lo) el_E one_E rfl rfl rfl rfl; (exact Ow.keep (hML.ow) kf_); (refine Rs.new [⟨2, y.ticket, y.buyer, y.price⟩] (by (first | rfl | (simp only [zq_]; done) | omega)) rfl rfl (fun _ => rfl) (by omega)); omega; (exact sz_); intro A1 c1 w2 ho1 hch1 hat1 hex1 hlow1; clear hex1; obtain ⟨hB0, hF0⟩ := Ch.atA_keep hch1 (g := w.heap.size) (by exact sz_) (Ow.apart (hML.ow) (by omega)); obtain ⟨hB1, hF1⟩ := Ch.atA_keep hch1 (g := w.heap.size + 1) (by exact sz_) (Ow.apart (hML.ow) (by omega)); obtain ⟨hB2, hF2⟩ := Ch.atA_keep hch1 (g := w.heap.size + 1 + 1) (by exact sz_) (Ow.apart (hML.ow) (by omega)); have hzA := hch1.size; (try simp only [zq_] at hzA)))
 rw [hT.out] at ho1
 have m1 := OwM.pursed ((hM.glueL (τ' := fun _ => 0) (Nat.le_refl _)).keepF kf_) hoP (Nat.le_refl _) sz_ (kE (by assumption) (kR _ _))
 have m2 := OwM.logged (m1.box (g0 := w.heap.size) (g1 := w.heap.size + 4) bx_ (tag1 tag0 sz_)) ho1 hch1 hat1
 have m3 := m2.box (w' := w2.setCell ⟨w.heap.size, 0, none⟩ (.slice A1 (aLn + 1) c1)) (g0 := w.heap.size) (g1 := w.heap.size + 4) bx_ (tag1 (tag1 tag0 sz_) sz_)
 have hS := Ch.trans' (show Ch (SM lo τ) w _ from ext_) hch1 (fun i _ h => hM.atL h)
 apply Calls.mono
 apply (sOut_c (k := kd))
 · exact m3.deals.rs0 (kR _ _)
 · exact hk
 · exact hn8
 rintro E w3 ⟨A3, c3, rfl, ho3, hb3⟩
 have hst := xr hb3
 (try simp only [zq_] at hst)
 obtain ⟨hc3, hf3, hz3⟩ := hst
 go_wp2_with fail
 refine bodyPost_ret (v := .tuple #[.agg #[.slice A1 (aLn + 1) c1, .slice A' aPn c', .slice A3 (aDn - 1) c3, .int .i64 m.clock, .slice aN aNn aNc, .slice aS aSn aSc], .int .i64 1]) (by simp [results, Tryz.results233, go_sem, *]) rfl ?_
 have m4 := OwM.dealt m3 ho3 (Nat.le_refl _) sz_ (kE hb3 (kR _ _))
 exact ⟨_, _, _, _, _, _, _, _, _, _, _, _, _, _, _, _, rfl, m4.box (g0 := w.heap.size) (g1 := w.heap.size + 4) bx_ (tag1 (tag1 (tag1 tag0 sz_) sz_) sz_), fun b hb => (if_pos sz_).trans ((if_pos sz_).trans ((if_pos sz_).trans (if_pos hb))), ext_⟩
end Go.Proofs.YtnnoiagommiapaaGreat
namespace Go.Proofs.YtnnoiagommiapaaGreat
open Go.RowKit Go
set_option maxHeartbeats 2000000
structure MS (g o n lo : Nat) (τ0 : Nat → Nat) (w0 : World) (aL : Option Addr) (aLc aLn : Nat) (aP : Option Addr) (aPc aPn : Nat) (aD : Option Addr) (aDc aDn : Nat) (aN : Option Addr) (aNc aNn : Nat) (aS : Option Addr) (aSc aSn : Nat) (m : Sw.Mkt) (τ : Nat → Nat) (w : World) : Prop where
 at_ : MktAt w g o aL aLc aLn aP aPc aPn aD aDc aDn aN aNc aNn aS aSc aSn m.clock
 lb : Lb w g n
 ow : OwM τ w lo aL aLc aLn aP aPc aPn aD aDc aDn aN aNc aNn aS aSc aSn m
 tag : ∀ b, b < w0.heap.size → τ b = τ0 b
 out : ∀ i, i < o ∨ o + 6 ≤ i → w.cell? ⟨g, i, none⟩ = w0.cell? ⟨g, i, none⟩
 ch : Ch (SG g lo τ0) w0 w
 glt : g < w0.heap.size
 gz : τ0 g = 0
 llo : lo ≤ w0.heap.size
section
variable {g o n lo : Nat} {τ0 τ : Nat → Nat} {w0 w w' : World} {aL : Option Addr} {aLc aLn : Nat} {aP : Option Addr} {aPc aPn : Nat} {aD : Option Addr} {aDc aDn : Nat} {aN : Option Addr} {aNc aNn : Nat} {aS : Option Addr} {aSc aSn : Nat} {m : Sw.Mkt}
theorem MS.start (hA : MktAt w g o aL aLc aLn aP aPc aPn aD aDc aDn aN aNc aNn aS aSc aSn m.clock) (hL : Lb w g n) (hM : OwM τ w lo aL aLc aLn aP aPc aPn aD aDc aDn aN aNc aNn aS aSc aSn m) (hg : τ g = 0) (hlo : lo ≤ w.heap.size) : MS g o n lo τ w aL aLc aLn aP aPc aPn aD aDc aDn aN aNc aNn aS aSc aSn m τ w :=
 ⟨hA, hL, hM, fun _ _ => rfl, fun _ _ => rfl, Ch.refl _ _, hA.lt, hg, hlo⟩
theorem MS.g0 (h : MS g o n lo τ0 w0 aL aLc aLn aP aPc aPn aD aDc aDn aN aNc aNn aS aSc aSn m τ w) : τ g = 0 := (h.tag g h.glt).trans h.gz
theorem MS.ex (h : MS g o n lo τ0 w0 aL aLc aLn aP aPc aPn aD aDc aDn aN aNc aNn aS aSc aSn m τ w) (hb : Ex w w') : MS g o n lo τ0 w0 aL aLc aLn aP aPc aPn aD aDc aDn aN aNc aNn aS aSc aSn m τ w' := by
 have hk : KF 0 w w' := kE hb (kR _ _)
 exact ⟨h.at_.keep hk, h.lb.ex hb, h.ow.keepF (kE hb (kR _ _)), h.tag, fun i hi => (World.cell?_of_block (w := w) (a := ⟨g, i, none⟩) (hb.block g h.at_.lt (fun h => h))).trans (h.out i hi), cE hb h.ch, h.glt, h.gz, h.llo⟩
theorem MS.may (h : MS g o n lo τ0 w0 aL aLc aLn aP aPc aPn aD aDc aDn aN aNc aNn aS aSc aSn m τ w) {i t : Nat} (hl : lo ≤ i) (ht : τ i = t) (h1 : 1 ≤ t) (h5 : t ≤ 5) : SG g lo τ0 i ∨ w0.heap.size ≤ i := by
 by_cases hi : i < w0.heap.size
 · exact .inl (.inr ⟨hl, by rw [← h.tag i hi, ht]; exact h1, by rw [← h.tag i hi, ht]; exact h5⟩)
 · exact .inr (by omega)
theorem MS.ne (h : MS g o n lo τ0 w0 aL aLc aLn aP aPc aPn aD aDc aDn aN aNc aNn aS aSc aSn m τ w) {i t : Nat} (ht : τ i = t) (h1 : 1 ≤ t) : i ≠ g := by
 rintro rfl
 have := h.g0
 omega
theorem cne {g i j : Nat} (h : i ≠ j) : (⟨g, i, none⟩ : Addr) ≠ ⟨g, j, none⟩ := fun e => h (by injection e)
theorem MktAt.setL {clock : Int} (h : MktAt w g o aL aLc aLn aP aPc aPn aD aDc aDn aN aNc aNn aS aSc aSn clock) (B : Option Addr) (n d : Nat) : MktAt (w.setCell ⟨g, o, none⟩ (.slice B n d)) g o B d n aP aPc aPn aD aDc aDn aN aNc aNn aS aSc aSn clock :=
 ⟨by simpa [World.setCell] using h.lt, World.cell?_setCell_same _ _ _ h.log, (World.cell?_setCell_other _ _ _ _ (cne (by omega))).trans h.purses, (World.cell?_setCell_other _ _ _ _ (cne (by omega))).trans h.deals, (World.cell?_setCell_other _ _ _ _ (cne (by omega))).trans h.clk,
   (World.cell?_setCell_other _ _ _ _ (cne (by omega))).trans h.nums, (World.cell?_setCell_other _ _ _ _ (cne (by omega))).trans h.said, fun i => by simpa using h.free i⟩
theorem MktAt.setD {clock : Int} (h : MktAt w g o aL aLc aLn aP aPc aPn aD aDc aDn aN aNc aNn aS aSc aSn clock) (B : Option Addr) (n d : Nat) : MktAt (w.setCell ⟨g, o + 2, none⟩ (.slice B n d)) g o aL aLc aLn aP aPc aPn B d n aN aNc aNn aS aSc aSn clock :=
 ⟨by simpa [World.setCell] using h.lt, (World.cell?_setCell_other _ _ _ _ (cne (by omega))).trans h.log, (World.cell?_setCell_other _ _ _ _ (cne (by omega))).trans h.purses, World.cell?_setCell_same _ _ _ h.deals, (World.cell?_setCell_other _ _ _ _ (cne (by omega))).trans h.clk,
   (World.cell?_setCell_other _ _ _ _ (cne (by omega))).trans h.nums, (World.cell?_setCell_other _ _ _ _ (cne (by omega))).trans h.said, fun i => by simpa using h.free i⟩
theorem MktAt.apart {S : Nat → Prop} {clock : Int} (h : MktAt w g o aL aLc aLn aP aPc aPn aD aDc aDn aN aNc aNn aS aSc aSn clock) (hb : Ch S w w') (hS : ¬ S g) : MktAt w' g o aL aLc aLn aP aPc aPn aD aDc aDn aN aNc aNn aS aSc aSn clock := by
 have hk := hb.block g h.lt hS
 have c : ∀ i : Nat, w'.cell? ⟨g, i, none⟩ = w.cell? ⟨g, i, none⟩ := fun i => World.cell?_of_block (w := w) (a := ⟨g, i, none⟩) hk
 exact ⟨Nat.lt_of_lt_of_le h.lt hb.size, (c _).trans h.log, (c _).trans h.purses, (c _).trans h.deals, (c _).trans h.clk, (c _).trans h.nums, (c _).trans h.said, fun i => (World.frozen?_of_block (w := w) (a := ⟨g, i, none⟩) hk).trans (h.free i)⟩
theorem OwM.cell (h : OwM τ w lo aL aLc aLn aP aPc aPn aD aDc aDn aN aNc aNn aS aSc aSn m) (hg : τ g = 0) (i : Nat) (v : Value) : OwM τ (w.setCell ⟨g, i, none⟩ v) lo aL aLc aLn aP aPc aPn aD aDc aDn aN aNc aNn aS aSc aSn m :=
 h.keep fun t h1 _ => (KT.refl _ _ _ _).setCell (.inr (by show τ g ≠ t; omega))
theorem OwM.redealt (h : OwM τ w lo aL aLc aLn aP aPc aPn aD aDc aDn aN aNc aNn aS aSc aSn m) {A : Option Addr} {c n : Nat} {ds : List Sw.Deal} (ho : OwD w' lo A c n ds) (hc : Ch (atA aD) w w') (hat : ∀ b, A = some b → aD = some b ∨ w.heap.size ≤ b.block) :
   OwM (glue τ w.heap.size (fun _ => 3)) w' lo aL aLc aLn aP aPc aPn A c n aN aNc aNn aS aSc aSn { m with deals := ds } := by
 have K : ∀ t, t ≠ 3 → KT (glue τ w.heap.size (fun _ => 3)) t lo w w' := fun t ht => KT.ch hc (KT.refl _ _ _ _) fun i ⟨a, ha, hi⟩ => .inr (by rw [hi, glue_tag (h.deals.tag a ha)]; exact Ne.symm ht)
 exact ⟨(h.log.glueL (Nat.le_refl _)).keep (K 1 (by decide)), (h.purses.glueL (Nat.le_refl _)).keep (K 2 (by decide)), OwT.full ho h.deals hat, (h.nums.glueL (Nat.le_refl _)).keep (K 4 (by decide)), (h.said.glueL (Nat.le_refl _)).keep (K 5 (by decide))⟩
theorem MS.glue_tag (h : MS g o n lo τ0 w0 aL aLc aLn aP aPc aPn aD aDc aDn aN aNc aNn aS aSc aSn m τ w) (t : Nat) : ∀ b, b < w0.heap.size → glue τ w.heap.size (fun _ => t) b = τ0 b := fun b hb =>
 (if_pos (by have := h.ch.size; omega)).trans (h.tag b hb)
theorem MS.glue_g (h : MS g o n lo τ0 w0 aL aLc aLn aP aPc aPn aD aDc aDn aN aNc aNn aS aSc aSn m τ w) (t : Nat) : glue τ w.heap.size (fun _ => t) g = 0 := (h.glue_tag t g h.glt).trans h.gz
theorem MS.lo_le (h : MS g o n lo τ0 w0 aL aLc aLn aP aPc aPn aD aDc aDn aN aNc aNn aS aSc aSn m τ w) : lo ≤ w.heap.size := Nat.le_trans h.llo h.ch.size
theorem MS.deals (h : MS g o n lo τ0 w0 aL aLc aLn aP aPc aPn aD aDc aDn aN aNc aNn aS aSc aSn m τ w) {A : Option Addr} {c k : Nat} {ds : List Sw.Deal} (ho : OwD w' lo A c k ds) (hc : Ch (atA aD) w w') (hat : ∀ b, A = some b → aD = some b ∨ w.heap.size ≤ b.block) :
   MS g o n lo τ0 w0 aL aLc aLn aP aPc aPn A c k aN aNc aNn aS aSc aSn { m with deals := ds } (glue τ w.heap.size (fun _ => 3)) (w'.setCell ⟨g, o + 2, none⟩ (.slice A k c)) := by
 have hS : ¬ atA aD g := fun ⟨a, ha, e⟩ => h.ne (h.ow.deals.tag a ha) (by decide) e.symm
 refine ⟨(h.at_.apart hc hS).setD A k c, (h.lb.chk hc hS).set, (h.ow.redealt ho hc hat).cell (h.glue_g 3) _ _, h.glue_tag 3, fun i hi => ?_, cS (h.ch.trans' hc fun i hi ⟨a, ha, e⟩ => ?_) (.inl (.inl rfl)) _, h.glt, h.gz, h.llo⟩
 · refine (World.cell?_setCell_other _ _ _ _ (cne (by omega))).trans ?_
   exact (hc.cell (p := ⟨g, i, none⟩) h.at_.lt hS).trans (h.out i hi)
 · subst e
   rcases h.may (h.ow.deals.ow.blk ha).1 (h.ow.deals.tag a ha) (by decide) (by decide) with h1 | h1
   · exact h1
   · omega
theorem MS.log (h : MS g o n lo τ0 w0 aL aLc aLn aP aPc aPn aD aDc aDn aN aNc aNn aS aSc aSn m τ w) {A : Option Addr} {c k : Nat} {es : List Sw.Ent} (ho : OwE w' lo A c k es) (hc : Ch (atA aL) w w') (hat : ∀ b, A = some b → aL = some b ∨ w.heap.size ≤ b.block) :
   MS g o n lo τ0 w0 A c k aP aPc aPn aD aDc aDn aN aNc aNn aS aSc aSn { m with log := es } (glue τ w.heap.size (fun _ => 1)) (w'.setCell ⟨g, o, none⟩ (.slice A k c)) := by
 have hS : ¬ atA aL g := fun ⟨a, ha, e⟩ => h.ne (h.ow.log.tag a ha) (by decide) e.symm
 refine ⟨(h.at_.apart hc hS).setL A k c, (h.lb.chk hc hS).set, (h.ow.logged ho hc hat).cell (h.glue_g 1) _ _, h.glue_tag 1, fun i hi => ?_, cS (h.ch.trans' hc fun i hi ⟨a, ha, e⟩ => ?_) (.inl (.inl rfl)) _, h.glt, h.gz, h.llo⟩
 · refine (World.cell?_setCell_other _ _ _ _ (cne (by omega))).trans ?_
   exact (hc.cell (p := ⟨g, i, none⟩) h.at_.lt hS).trans (h.out i hi)
 · subst e
   rcases h.may (h.ow.log.ow.blk ha).1 (h.ow.log.tag a ha) (by decide) (by decide) with h1 | h1
   · exact h1
   · omega
theorem MS.purses (h : MS g o n lo τ0 w0 aL aLc aLn aP aPc aPn aD aDc aDn aN aNc aNn aS aSc aSn m τ w) {A : Option Addr} {c k : Nat} {ps : List Int} (ho : OwI w' w.heap.size A c k ps) (hc : Ex w w') :
   MS g o n lo τ0 w0 aL aLc aLn A c k aD aDc aDn aN aNc aNn aS aSc aSn { m with purses := ps } (glue τ w.heap.size (fun _ => 2)) (w'.setCell ⟨g, o + 1, none⟩ (.slice A k c)) := by
 refine ⟨(h.at_.keep (kE hc (kR _ _))).setP A k c, (h.lb.ex hc).set, (h.ow.pursed ho (Nat.le_refl _) h.lo_le (kE hc (kR _ _))).cell (h.glue_g 2) _ _, h.glue_tag 2, fun i hi => ?_, cS (cE hc h.ch) (.inl (.inl rfl)) _, h.glt, h.gz, h.llo⟩
 refine (World.cell?_setCell_other _ _ _ _ (cne (by omega))).trans ?_
 exact (hc.cell (p := ⟨g, i, none⟩) h.at_.lt (fun h => h)).trans (h.out i hi)
theorem MS.zero (h : MS g o n lo τ0 w0 aL aLc aLn aP aPc aPn aD aDc aDn aN aNc aNn aS aSc aSn m τ w) (hb : Ex w w') : MS g o n lo τ0 w0 aL aLc aLn aP aPc aPn aD aDc aDn aN aNc aNn aS aSc aSn m (glue τ w.heap.size (fun _ => 0)) w' := by
 have h' := h.ex hb
 exact ⟨h'.at_, h'.lb, (h.ow.glueL (Nat.le_refl _)).keepF (kE hb (kR _ _)), h.glue_tag 0, h'.out, h'.ch, h.glt, h.gz, h.llo⟩
theorem MS.trans {bL : Option Addr} {bLc bLn : Nat} {bP : Option Addr} {bPc bPn : Nat} {bD : Option Addr} {bDc bDn : Nat} {bN : Option Addr} {bNc bNn : Nat} {bS : Option Addr} {bSc bSn : Nat} {m' : Sw.Mkt} {τ' : Nat → Nat} (h : MS g o n lo τ0 w0 aL aLc aLn aP aPc aPn aD aDc aDn aN aNc aNn aS aSc aSn m τ w) (k : MS g o n lo τ w bL bLc bLn bP bPc bPn bD bDc bDn bN bNc bNn bS bSc bSn m' τ' w') : MS g o n lo τ0 w0 bL bLc bLn bP bPc bPn bD bDc bDn bN bNc bNn bS bSc bSn m' τ' w' := by
 have hz := h.ch.size
 refine ⟨k.at_, k.lb, k.ow, fun b hb => (k.tag b (by omega)).trans (h.tag b hb), fun i hi => (k.out i hi).trans (h.out i hi), h.ch.trans' k.ch fun i hi hs => ?_, h.glt, h.gz, h.llo⟩
 rcases hs with hs | ⟨h1, h2, h3⟩
 · exact .inl hs
 · exact .inr ⟨h1, by rw [← h.tag i hi]; exact h2, by rw [← h.tag i hi]; exact h3⟩
end
end Go.Proofs.YtnnoiagommiapaaGreat
namespace Go.Proofs.YtnnoiagommiapaaGreat
open Go.RowKit Go
set_option maxHeartbeats 4000000
section
variable {g o n lo : Nat} {τ0 τ : Nat → Nat} {w0 w : World} {aL : Option Addr} {aLc aLn : Nat} {aP : Option Addr} {aPc aPn : Nat} {aD : Option Addr} {aDc aDn : Nat} {aN : Option Addr} {aNc aNn : Nat} {aS : Option Addr} {aSc aSn : Nat} {m : Sw.Mkt}
end
end Go.Proofs.YtnnoiagommiapaaGreat
namespace Go.Proofs.YtnnoiagommiapaaGreat
open Go.RowKit Go
set_option maxHeartbeats 4000000
section
variable {g o n lo : Nat} {τ0 τ : Nat → Nat} {w0 w : World} {aL aP aN aS : Option Addr} {aLc aLn aPc aPn aDc aDn aNc aNn aSc aSn gD k : Nat} {m : Sw.Mkt}
theorem MS.funded (h : MS g o n lo τ0 w0 aL aLc aLn aP aPc aPn (some ⟨gD, 0, none⟩) aDc aDn aN aNc aNn aS aSc aSn m τ w) {y : Sw.Deal} (hx : m.deals[k]? = some y) (b d : Int) :
   MS g o n lo τ0 w0 aL aLc aLn aP aPc aPn (some ⟨gD, 0, none⟩) aDc aDn aN aNc aNn aS aSc aSn { m with deals := m.deals.set k { y with buyer := b, due := d } } τ ((w.setCell ⟨gD, k * 5 + 3, none⟩ (.int .i64 b)).setCell ⟨gD, k * 5 + 4, none⟩ (.int .i64 d)) := by
 have tD := h.ow.deals.tag _ rfl
 have hne : gD ≠ g := h.ne tD (by decide)
 have hm := h.may (h.ow.deals.ow.blk rfl).1 tD (by decide) (by decide)
 have gne : ∀ i j : Nat, (⟨gD, i, none⟩ : Addr) ≠ ⟨g, j, none⟩ := fun i j e => hne (by injection e)
 exact ⟨(h.at_.other _ hne).other _ hne, h.lb.set.set, h.ow.funded hx b d, h.tag, fun i hi => ((World.cell?_setCell_other _ _ _ _ (gne _ _)).trans (World.cell?_setCell_other _ _ _ _ (gne _ _))).trans (h.out i hi), cS (p := ⟨gD, k * 5 + 4, none⟩) (cS (p := ⟨gD, k * 5 + 3, none⟩) h.ch hm _) hm _, h.glt, h.gz, h.llo⟩
end
section
variable {g o n lo : Nat} {τ0 τ : Nat → Nat} {w0 w : World} {aL : Option Addr} {aLc aLn : Nat} {aP : Option Addr} {aPc aPn : Nat} {aD : Option Addr} {aDc aDn : Nat} {aN : Option Addr} {aNc aNn : Nat} {aS : Option Addr} {aSc aSn : Nat} {m : Sw.Mkt}
end
end Go.Proofs.YtnnoiagommiapaaGreat
namespace Go.Proofs.YtnnoiagommiapaaGreat
open Go.RowKit Go
set_option maxHeartbeats 4000000
section
variable {g o n lo : Nat} {τ0 τ : Nat → Nat} {w0 w : World} {aL : Option Addr} {aLc aLn : Nat} {aP : Option Addr} {aPc aPn : Nat} {aD : Option Addr} {aDc aDn : Nat} {aN : Option Addr} {aNc aNn : Nat} {aS : Option Addr} {aSc aSn : Nat} {m : Sw.Mkt}
end
end Go.Proofs.YtnnoiagommiapaaGreat
namespace Go.Proofs.YtnnoiagommiapaaGreat
open Go.RowKit Go
set_option maxHeartbeats 8000000
section
variable {g o n lo : Nat} {τ0 τ : Nat → Nat} {w0 w : World} {aL : Option Addr} {aLc aLn : Nat} {aP : Option Addr} {aPc aPn : Nat} {aD : Option Addr} {aDc aDn : Nat} {aN : Option Addr} {aNc aNn : Nat} {aS : Option Addr} {aSc aSn : Nat} {m : Sw.Mkt}
def EffPost (g o n lo : Nat) (τ0 : Nat → Nat) (w0 w' : World) (E : Ending) (x : Sw.Mkt × Int) : Prop := ∃ (bL : Option Addr) (bLc bLn : Nat) (bP : Option Addr) (bPc bPn : Nat) (bD : Option Addr) (bDc bDn : Nat) (bN : Option Addr) (bNc bNn : Nat) (bS : Option Addr) (bSc bSn : Nat) (τ' : Nat → Nat), E = .returned (.int .i64 x.2) ∧ MS g o n lo τ0 w0 bL bLc bLn bP bPc bPn bD bDc bDn bN bNc bNn bS bSc bSn x.1 τ' w'
end
end Go.Proofs.YtnnoiagommiapaaGreat
namespace Go.Proofs.YtnnoiagommiapaaGreat
open Go.RowKit Go
set_option maxHeartbeats 8000000
section
variable {g o n lo : Nat} {τ0 τ : Nat → Nat} {w0 w : World} {aL : Option Addr} {aLc aLn : Nat} {aP : Option Addr} {aPc aPn : Nat} {aD : Option Addr} {aDc aDn : Nat} {aN : Option Addr} {aNc aNn : Nat} {aS : Option Addr} {aSc aSn : Nat} {m : Sw.Mkt}
end
end Go.Proofs.YtnnoiagommiapaaGreat
