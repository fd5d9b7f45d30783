/-
  Texts joined: DoG.
-/
import Derived.Test.YtdcjadgflenejaaPk27
namespace Go.Proofs.Ytdcjadgflenejaa
set_option maxRecDepth 100000
set_option linter.unusedSimpArgs false
set_option linter.unusedVariables false
open Go.RowKit Go
set_option maxHeartbeats 2000000

theorem sSettle_c (aL : Option Addr) (aLc aLn : Nat) (aP : Option Addr) (aPc aPn : Nat) (aD : Option Addr) (aDc aDn : Nat) (aN : Option Addr) (aNc aNn : Nat) (aS : Option Addr) (aSc aSn : Nat) (m : Sw.Mkt) (ru rn rk : Int) (t : Nat) (rh rp : Int) (rows : List Sw.Row) (lo : Nat) (τ : Nat → Nat) (w : World) (hM : OwM τ w lo aL aLc aLn aP aPc aPn aD aDc aDn aN aNc aNn aS aSc aSn m) (hok : Sw.MOk m rows) (ht : t < 8) (hlo : lo ≤ w.heap.size) : Calls Try.prog 63 #[.agg #[.slice aL aLn aLc, .slice aP aPn aPc, .slice aD aDn aDc, .int .i64 m.clock, .slice aN aNn aNc, .slice aS aSn aSc], .agg #[.int .i64 ru, .int .i64 rn, .int .i64 rk, .int .i64 t, .int .i64 rh, .int .i64 rp]] w fun E w' => MktPost lo τ w w' E (Sw.settle m ⟨ru, rn, rk, t, rh, rp⟩ (Sw.dealAt m.deals t)) := by
  have hML := hM.log
  have hMD := hM.deals
  have hMP := hM.purses
  have hd8 : m.deals.length ≤ 8 := hok.dlen
  have hL40 : m.log.length ≤ 40 := (Sw.ownFold_some.1 hok.fold).1
  have l1 := hM.log.ow.1
  have l3 := hM.deals.ow.1
  have hp5 : aPn ≤ 4194304 := by have := hM.purses.ow.1; have := (Sw.monOk_iff.1 hok.mon).1; omega
  have i0 : (0 : Int) ≤ (t : Int) := by omega
  have i1 : (t : Int) < 8 := by omega
  cases h3 : Sw.dealAt m.deals t
  case none =>
    have e : Sw.settle m ⟨ru, rn, rk, t, rh, rp⟩ none = (m, 3) := rfl
    rw [e]
    have HD := Lib.hid (dealIx_none h3)
    clear e l3 h3 hok l1
    go_enter Try.func63, Try.ntmps63
    go_wp2_with (go_at_call 81; apply Calls.mono; apply sFind_c; (apply OwT.rs0 hMD; (exact kf_)); rintro E w' ⟨rfl, rfl⟩; rw [HD.out])
    refine bodyPost_ret (v := .tuple #[.agg #[.slice aL aLn aLc, .slice aP aPn aPc, .slice aD aDn aDc, .int .i64 m.clock, .slice aN aNn aNc, .slice aS aSn aSc], .int .i64 3]) (by simp [results, Try.results63, go_sem, *]) rfl ?_
    exact ⟨_, _, _, _, _, _, _, _, _, _, _, _, _, _, _, τ, rfl, hM.keepF kf_, fun _ _ => rfl, ext_⟩
  rename_i kd
  obtain ⟨d, hd, hdt⟩ := Sw.dealAt_some h3
  have hk : kd < aDn := by have := (List.getElem?_eq_some_iff.1 hd).1; omega
  have HD := Lib.hid (dealIx_some h3)
  have hgd := Sw.getD_of (z := Sw.dealZ) hd
  obtain ⟨gD, y, rfl, hloD, hltD, hy, d0, d1, d2, d3, d4, hfD⟩ := at_OD hM.deals.ow hk
  obtain rfl : y = d := Option.some.inj (hy.symm.trans hd)
  have hby := (Sw.dealOk_iff.1 (hok.deals.get hd)).2.2.2.2.2
  have hby0 : 0 ≤ y.buyer := by omega
  clear hok hby
  have k0 : (0 : Int) ≤ (kd : Int) := by omega
  have k1 : (kd : Int) < (aDn : Int) := by omega
  have k2 : ¬ (kd : Int) < 0 := by omega
  by_cases h4 : y.buyer = 0
  · have g4 : (y.buyer == 0) = true := by simpa using h4
    have e : Sw.settle m ⟨ru, rn, rk, t, rh, rp⟩ (some kd) = (m, 3) := by unfold Sw.settle; dsimp only; rw [hgd, if_pos (by simp [Sw.held, h4])]
    rw [e]
    clear e l3 h3 hd hdt hy hgd l1 h4
    go_enter Try.func63, Try.ntmps63
    go_wp2_with (go_at_call 81; apply Calls.mono; apply sFind_c; (apply OwT.rs0 hMD; (exact kf_)); rintro E w' ⟨rfl, rfl⟩; rw [HD.out])
    refine bodyPost_ret (v := .tuple #[.agg #[.slice aL aLn aLc, .slice aP aPn aPc, .slice (some ⟨gD, 0, none⟩) aDn aDc, .int .i64 m.clock, .slice aN aNn aNc, .slice aS aSn aSc], .int .i64 3]) (by simp [results, Try.results63, go_sem, *]) rfl ?_
    exact ⟨_, _, _, _, _, _, _, _, _, _, _, _, _, _, _, τ, rfl, hM.keepF kf_, fun _ _ => rfl, ext_⟩
  have g4 : (y.buyer == 0) = false := by simpa using h4
  have hh : ¬ Sw.held y = false := by simp [Sw.held]; omega
  by_cases h5 : y.seller = ru
  case neg =>
    have g5 : (y.seller != ru) = true := by simpa using h5
    have e : Sw.settle m ⟨ru, rn, rk, t, rh, rp⟩ (some kd) = (m, 2) := by unfold Sw.settle; dsimp only; rw [hgd, if_neg hh, if_pos h5]
    rw [e]
    clear e l3 h3 hd hdt hy hgd h5 hh l1
    go_enter Try.func63, Try.ntmps63
    go_wp2_with (go_at_call 81; apply Calls.mono; apply sFind_c; (apply OwT.rs0 hMD; (exact kf_)); rintro E w' ⟨rfl, rfl⟩; rw [HD.out])
    refine bodyPost_ret (v := .tuple #[.agg #[.slice aL aLn aLc, .slice aP aPn aPc, .slice (some ⟨gD, 0, none⟩) aDn aDc, .int .i64 m.clock, .slice aN aNn aNc, .slice aS aSn aSc], .int .i64 2]) (by simp [results, Try.results63, go_sem, *]) rfl ?_
    exact ⟨_, _, _, _, _, _, _, _, _, _, _, _, _, _, _, τ, rfl, hM.keepF kf_, fun _ _ => rfl, ext_⟩
  have g5 : (y.seller != ru) = false := by simpa using h5
  by_cases h6 : m.log.length = 40
  · have g6 : ((aLn : Int) == 40) = true := by simp; omega
    have e : Sw.settle m ⟨ru, rn, rk, t, rh, rp⟩ (some kd) = (m, 6) := by unfold Sw.settle; dsimp only; rw [hgd, if_neg hh, if_neg (by simpa using h5), if_pos h6]
    rw [e]
    clear e l3 h3 hd hdt hy hgd h5 hh l1 h6
    go_enter Try.func63, Try.ntmps63
    go_wp2_with (go_at_call 81; apply Calls.mono; apply sFind_c; (apply OwT.rs0 hMD; (exact kf_)); rintro E w' ⟨rfl, rfl⟩; rw [HD.out])
    refine bodyPost_ret (v := .tuple #[.agg #[.slice aL aLn aLc, .slice aP aPn aPc, .slice (some ⟨gD, 0, none⟩) aDn aDc, .int .i64 m.clock, .slice aN aNn aNc, .slice aS aSn aSc], .int .i64 6]) (by simp [results, Try.results63, go_sem, *]) rfl ?_
    exact ⟨_, _, _, _, _, _, _, _, _, _, _, _, _, _, _, τ, rfl, hM.keepF kf_, fun _ _ => rfl, ext_⟩
  have g6 : ((aLn : Int) == 40) = false := by simp; omega
  have e : Sw.settle m ⟨ru, rn, rk, t, rh, rp⟩ (some kd) = ({ m with purses := Sw.monTurn m.purses y.seller y.price, log := m.log ++ [⟨2, t, y.buyer, y.price⟩], deals := m.deals.eraseIdx kd }, 1) := by unfold Sw.settle; dsimp only; rw [hgd, if_neg hh, if_neg (by simpa using h5), if_neg h6]
  rw [e]
  have hl40 : aLn ≤ 40 := by omega
  have hn8 : aDn ≤ 4194304 := by omega
  have hT := Lib.hid hdt
  clear e l3 h3 hd hdt hy hgd h5 hh l1 h6
  go_enter Try.func63, Try.ntmps63
  go_wp2_with (first | (go_at_call 81; apply Calls.mono; apply sFind_c; (apply OwT.rs0 hMD; (exact kf_)); rintro E w' ⟨rfl, rfl⟩; rw [HD.out]) | (go_at_call 59; apply Calls.mono; apply sMonTurn_c; ((first | (apply Rs.at0; assumption) | (apply Ow.rs0; assumption) | (apply OwT.rs0; assumption)); exact kf_); (first | assumption | omega); rintro E w1 ⟨A', c', rfl, hoP, hb⟩; have hst := xr hb; (try simp only [zA, zC, zD, zN] at hst); obtain ⟨hc, hf, hz⟩ := hst) | (at_builtin; apply wpList_app (lo := lo) el_E one_E rfl rfl rfl rfl; (exact Ow.keep (hML.ow) kf_); (refine Rs.new [⟨2, y.ticket, y.buyer, y.price⟩] (by (first | rfl | (simp only [zA, zC, zD, zN]; done) | omega)) rfl rfl (fun _ => rfl) (by omega)); omega; (exact sz_); intro A1 c1 w2 ho1 hch1 hat1 hex1 hlow1; clear hex1; obtain ⟨hB0, hF0⟩ := Ch.atA_keep hch1 (g := w.heap.size) (by exact sz_) (Ow.apart (hML.ow) (by omega)); obtain ⟨hB1, hF1⟩ := Ch.atA_keep hch1 (g := w.heap.size + 1) (by exact sz_) (Ow.apart (hML.ow) (by omega)); obtain ⟨hB2, hF2⟩ := Ch.atA_keep hch1 (g := w.heap.size + 1 + 1) (by exact sz_) (Ow.apart (hML.ow) (by omega)); have hzA := hch1.size; (try simp only [zA, zC, zD, zN] at hzA)))
  rw [hT.out] at ho1
  have m1 := OwM.pursed ((hM.glueL (τ' := fun _ => 0) (Nat.le_refl _)).keepF kf_) hoP (Nat.le_refl _) sz_ (kE (by assumption) (kR _ _))
  have m2 := OwM.logged (m1.box (g0 := w.heap.size) (g1 := w.heap.size + 4) bx_ (tag1 tag0 sz_)) ho1 hch1 hat1
  have m3 := m2.box (w' := w2.setCell ⟨w.heap.size, 0, none⟩ (.slice A1 (aLn + 1) c1)) (g0 := w.heap.size) (g1 := w.heap.size + 4) bx_ (tag1 (tag1 tag0 sz_) sz_)
  have hS := Ch.trans' (show Ch (SM lo τ) w _ from ext_) hch1 (fun i _ h => hM.atL h)
  apply Calls.mono
  apply (sOut_c (k := kd))
  · exact m3.deals.rs0 (kR _ _)
  · exact hk
  · exact hn8
  rintro E w3 ⟨A3, c3, rfl, ho3, hb3⟩
  have hst := xr hb3
  (try simp only [zA, zC, zD, zN] at hst)
  obtain ⟨hc3, hf3, hz3⟩ := hst
  go_wp2_with fail
  refine bodyPost_ret (v := .tuple #[.agg #[.slice A1 (aLn + 1) c1, .slice A' aPn c', .slice A3 (aDn - 1) c3, .int .i64 m.clock, .slice aN aNn aNc, .slice aS aSn aSc], .int .i64 1]) (by simp [results, Try.results63, go_sem, *]) rfl ?_
  have m4 := OwM.dealt m3 ho3 (Nat.le_refl _) sz_ (kE hb3 (kR _ _))
  exact ⟨_, _, _, _, _, _, _, _, _, _, _, _, _, _, _, _, rfl, m4.box (g0 := w.heap.size) (g1 := w.heap.size + 4) bx_ (tag1 (tag1 (tag1 tag0 sz_) sz_) sz_), fun b hb => (if_pos sz_).trans ((if_pos sz_).trans ((if_pos sz_).trans (if_pos hb))), ext_⟩
end Go.Proofs.Ytdcjadgflenejaa

