/-
  Texts joined: DoG, Mkt1, DoH, DoI, PtrJ, ImpE, Tick, PtrK.
-/
import Derived.Test.YtgceeggfdomdjaaPkD6
import Derived.Test.YtgceeggfdomdjaaPkD5
import Derived.Test.YtgceeggfdomdjaaPkD9
import Derived.Test.YtgceeggfdomdjaaPkD8
import Derived.Test.YtgceeggfdomdjaaPkD4
import Derived.Test.YtgceeggfdomdjaaPkD3
namespace Go.Proofs.Ytgceeggfdomdjaa
set_option maxRecDepth 100000
set_option linter.unusedSimpArgs false
set_option linter.unusedVariables false
open Go.RowKit Go
set_option maxHeartbeats 2000000

theorem sSettle_c (aL : Option Addr) (aLc aLn : Nat) (aP : Option Addr) (aPc aPn : Nat) (aD : Option Addr) (aDc aDn : Nat) (aN : Option Addr) (aNc aNn : Nat) (aS : Option Addr) (aSc aSn : Nat) (m : Sw.Mkt) (ru rn rk : Int) (t : Nat) (rh rp : Int) (rows : List Sw.Row) (lo : Nat) (τ : Nat → Nat) (w : World) (hM : OwM τ w lo aL aLc aLn aP aPc aPn aD aDc aDn aN aNc aNn aS aSc aSn m) (hok : Sw.MOk m rows) (ht : t < 8) (hlo : lo ≤ w.heap.size) : Calls Try.prog 190 #[.agg #[.slice aL aLn aLc, .slice aP aPn aPc, .slice aD aDn aDc, .int .i64 m.clock, .slice aN aNn aNc, .slice aS aSn aSc], .agg #[.int .i64 ru, .int .i64 rn, .int .i64 rk, .int .i64 t, .int .i64 rh, .int .i64 rp]] w fun E w' => MktPost lo τ w w' E (Sw.settle m ⟨ru, rn, rk, t, rh, rp⟩ (Sw.dealAt m.deals t)) := by
  have hML := hM.log
  have hMD := hM.deals
  have hMP := hM.purses
  have hd8 : m.deals.length ≤ 8 := hok.dlen
  have hL40 : m.log.length ≤ 40 := (Sw.ownFold_some.1 hok.fold).1
  have l1 := hM.log.ow.1
  have l3 := hM.deals.ow.1
  have hp5 : aPn ≤ 4194304 := by have := hM.purses.ow.1; have := (Sw.monOk_iff.1 hok.mon).1; omega
  have i0 : (0 : Int) ≤ (t : Int) := by omega
  have i1 : (t : Int) < 8 := by omega
  cases h3 : Sw.dealAt m.deals t
  case none =>
    have e : Sw.settle m ⟨ru, rn, rk, t, rh, rp⟩ none = (m, 3) := rfl
    rw [e]
    have HD := Lib.hid (dealIx_none h3)
    clear e l3 h3 hok l1
    go_enter Try.func190, Try.ntmps190
    go_wp2_with (go_at_call 208; apply Calls.mono; apply sFind_c; (apply OwT.rs0 hMD; (exact kf_)); rintro E w' ⟨rfl, rfl⟩; rw [HD.out])
    refine bodyPost_ret (v := .tuple #[.agg #[.slice aL aLn aLc, .slice aP aPn aPc, .slice aD aDn aDc, .int .i64 m.clock, .slice aN aNn aNc, .slice aS aSn aSc], .int .i64 3]) (by simp [results, Try.results190, go_sem, *]) rfl ?_
    exact ⟨_, _, _, _, _, _, _, _, _, _, _, _, _, _, _, τ, rfl, hM.keepF kf_, fun _ _ => rfl, ext_⟩
  rename_i kd
  obtain ⟨d, hd, hdt⟩ := Sw.dealAt_some h3
  have hk : kd < aDn := by have := (List.getElem?_eq_some_iff.1 hd).1; omega
  have HD := Lib.hid (dealIx_some h3)
  have hgd := Sw.getD_of (z := Sw.dealZ) hd
  obtain ⟨gD, y, rfl, hloD, hltD, hy, d0, d1, d2, d3, d4, hfD⟩ := at_OD hM.deals.ow hk
  obtain rfl : y = d := Option.some.inj (hy.symm.trans hd)
  have hby := (Sw.dealOk_iff.1 (hok.deals.get hd)).2.2.2.2.2
  have hby0 : 0 ≤ y.buyer := by omega
  clear hok hby
  have k0 : (0 : Int) ≤ (kd : Int) := by omega
  have k1 : (kd : Int) < (aDn : Int) := by omega
  have k2 : ¬ (kd : Int) < 0 := by omega
  by_cases h4 : y.buyer = 0
  · have g4 : (y.buyer == 0) = true := by simpa using h4
    have e : Sw.settle m ⟨ru, rn, rk, t, rh, rp⟩ (some kd) = (m, 3) := by unfold Sw.settle; dsimp only; rw [hgd, if_pos (by simp [Sw.held, h4])]
    rw [e]
    clear e l3 h3 hd hdt hy hgd l1 h4
    go_enter Try.func190, Try.ntmps190
    go_wp2_with (go_at_call 208; apply Calls.mono; apply sFind_c; (apply OwT.rs0 hMD; (exact kf_)); rintro E w' ⟨rfl, rfl⟩; rw [HD.out])
    refine bodyPost_ret (v := .tuple #[.agg #[.slice aL aLn aLc, .slice aP aPn aPc, .slice (some ⟨gD, 0, none⟩) aDn aDc, .int .i64 m.clock, .slice aN aNn aNc, .slice aS aSn aSc], .int .i64 3]) (by simp [results, Try.results190, go_sem, *]) rfl ?_
    exact ⟨_, _, _, _, _, _, _, _, _, _, _, _, _, _, _, τ, rfl, hM.keepF kf_, fun _ _ => rfl, ext_⟩
  have g4 : (y.buyer == 0) = false := by simpa using h4
  have hh : ¬ Sw.held y = false := by simp [Sw.held]; omega
  by_cases h5 : y.seller = ru
  case neg =>
    have g5 : (y.seller != ru) = true := by simpa using h5
    have e : Sw.settle m ⟨ru, rn, rk, t, rh, rp⟩ (some kd) = (m, 2) := by unfold Sw.settle; dsimp only; rw [hgd, if_neg hh, if_pos h5]
    rw [e]
    clear e l3 h3 hd hdt hy hgd h5 hh l1
    go_enter Try.func190, Try.ntmps190
    go_wp2_with (go_at_call 208; apply Calls.mono; apply sFind_c; (apply OwT.rs0 hMD; (exact kf_)); rintro E w' ⟨rfl, rfl⟩; rw [HD.out])
    refine bodyPost_ret (v := .tuple #[.agg #[.slice aL aLn aLc, .slice aP aPn aPc, .slice (some ⟨gD, 0, none⟩) aDn aDc, .int .i64 m.clock, .slice aN aNn aNc, .slice aS aSn aSc], .int .i64 2]) (by simp [results, Try.results190, go_sem, *]) rfl ?_
    exact ⟨_, _, _, _, _, _, _, _, _, _, _, _, _, _, _, τ, rfl, hM.keepF kf_, fun _ _ => rfl, ext_⟩
  have g5 : (y.seller != ru) = false := by simpa using h5
  by_cases h6 : m.log.length = 40
  · have g6 : ((aLn : Int) == 40) = true := by simp; omega
    have e : Sw.settle m ⟨ru, rn, rk, t, rh, rp⟩ (some kd) = (m, 6) := by unfold Sw.settle; dsimp only; rw [hgd, if_neg hh, if_neg (by simpa using h5), if_pos h6]
    rw [e]
    clear e l3 h3 hd hdt hy hgd h5 hh l1 h6
    go_enter Try.func190, Try.ntmps190
    go_wp2_with (go_at_call 208; apply Calls.mono; apply sFind_c; (apply OwT.rs0 hMD; (exact kf_)); rintro E w' ⟨rfl, rfl⟩; rw [HD.out])
    refine bodyPost_ret (v := .tuple #[.agg #[.slice aL aLn aLc, .slice aP aPn aPc, .slice (some ⟨gD, 0, none⟩) aDn aDc, .int .i64 m.clock, .slice aN aNn aNc, .slice aS aSn aSc], .int .i64 6]) (by simp [results, Try.results190, go_sem, *]) rfl ?_
    exact ⟨_, _, _, _, _, _, _, _, _, _, _, _, _, _, _, τ, rfl, hM.keepF kf_, fun _ _ => rfl, ext_⟩
  have g6 : ((aLn : Int) == 40) = false := by simp; omega
  have e : Sw.settle m ⟨ru, rn, rk, t, rh, rp⟩ (some kd) = ({ m with purses := Sw.monTurn m.purses y.seller y.price, log := m.log ++ [⟨2, t, y.buyer, y.price⟩], deals := m.deals.eraseIdx kd }, 1) := by unfold Sw.settle; dsimp only; rw [hgd, if_neg hh, if_neg (by simpa using h5), if_neg h6]
  rw [e]
  have hl40 : aLn ≤ 40 := by omega
  have hn8 : aDn ≤ 4194304 := by omega
  have hT := Lib.hid hdt
  clear e l3 h3 hd hdt hy hgd h5 hh l1 h6
  go_enter Try.func190, Try.ntmps190
  go_wp2_with (first | (go_at_call 208; apply Calls.mono; apply sFind_c; (apply OwT.rs0 hMD; (exact kf_)); rintro E w' ⟨rfl, rfl⟩; rw [HD.out]) | (go_at_call 159; apply Calls.mono; apply sMonTurn_c; ((first | (apply Rs.at0; assumption) | (apply Ow.rs0; assumption) | (apply OwT.rs0; assumption)); exact kf_); (first | assumption | omega); rintro E w1 ⟨A', c', rfl, hoP, hb⟩; have hst := xr hb; (try simp only [zA, zC, zD, zN] at hst); obtain ⟨hc, hf, hz⟩ := hst) | (at_builtin; apply wpList_app (lo := lo) el_E one_E rfl rfl rfl rfl; (exact Ow.keep (hML.ow) kf_); (refine Rs.new [⟨2, y.ticket, y.buyer, y.price⟩] (by (first | rfl | (simp only [zA, zC, zD, zN]; done) | omega)) rfl rfl (fun _ => rfl) (by omega)); omega; (exact sz_); intro A1 c1 w2 ho1 hch1 hat1 hex1 hlow1; clear hex1; obtain ⟨hB0, hF0⟩ := Ch.atA_keep hch1 (g := w.heap.size) (by exact sz_) (Ow.apart (hML.ow) (by omega)); obtain ⟨hB1, hF1⟩ := Ch.atA_keep hch1 (g := w.heap.size + 1) (by exact sz_) (Ow.apart (hML.ow) (by omega)); obtain ⟨hB2, hF2⟩ := Ch.atA_keep hch1 (g := w.heap.size + 1 + 1) (by exact sz_) (Ow.apart (hML.ow) (by omega)); have hzA := hch1.size; (try simp only [zA, zC, zD, zN] at hzA)))
  rw [hT.out] at ho1
  have m1 := OwM.pursed ((hM.glueL (τ' := fun _ => 0) (Nat.le_refl _)).keepF kf_) hoP (Nat.le_refl _) sz_ (kE (by assumption) (kR _ _))
  have m2 := OwM.logged (m1.box (g0 := w.heap.size) (g1 := w.heap.size + 4) bx_ (tag1 tag0 sz_)) ho1 hch1 hat1
  have m3 := m2.box (w' := w2.setCell ⟨w.heap.size, 0, none⟩ (.slice A1 (aLn + 1) c1)) (g0 := w.heap.size) (g1 := w.heap.size + 4) bx_ (tag1 (tag1 tag0 sz_) sz_)
  have hS := Ch.trans' (show Ch (SM lo τ) w _ from ext_) hch1 (fun i _ h => hM.atL h)
  apply Calls.mono
  apply (sOut_c (k := kd))
  · exact m3.deals.rs0 (kR _ _)
  · exact hk
  · exact hn8
  rintro E w3 ⟨A3, c3, rfl, ho3, hb3⟩
  have hst := xr hb3
  (try simp only [zA, zC, zD, zN] at hst)
  obtain ⟨hc3, hf3, hz3⟩ := hst
  go_wp2_with fail
  refine bodyPost_ret (v := .tuple #[.agg #[.slice A1 (aLn + 1) c1, .slice A' aPn c', .slice A3 (aDn - 1) c3, .int .i64 m.clock, .slice aN aNn aNc, .slice aS aSn aSc], .int .i64 1]) (by simp [results, Try.results190, go_sem, *]) rfl ?_
  have m4 := OwM.dealt m3 ho3 (Nat.le_refl _) sz_ (kE hb3 (kR _ _))
  exact ⟨_, _, _, _, _, _, _, _, _, _, _, _, _, _, _, _, rfl, m4.box (g0 := w.heap.size) (g1 := w.heap.size + 4) bx_ (tag1 (tag1 (tag1 tag0 sz_) sz_) sz_), fun b hb => (if_pos sz_).trans ((if_pos sz_).trans ((if_pos sz_).trans (if_pos hb))), ext_⟩
end Go.Proofs.Ytgceeggfdomdjaa

namespace Go.Proofs.Ytgceeggfdomdjaa
set_option maxRecDepth 100000
set_option linter.unusedSimpArgs false
set_option linter.unusedVariables false
open Go.RowKit Go
set_option maxHeartbeats 8000000

theorem sMktOk_c (aL : Option Addr) (aLc aLn : Nat) (aP : Option Addr) (aPc aPn : Nat) (aD : Option Addr) (aDc aDn : Nat) (aN : Option Addr) (aNc aNn : Nat) (aS : Option Addr) (aSc aSn : Nat) (m : Sw.Mkt) (w : World) (hm : RM w 0 aL aLc aLn aP aPc aPn aD aDc aDn aN aNc aNn aS aSc aSn m) : Calls Try.prog 45 #[.agg #[.slice aL aLn aLc, .slice aP aPn aPc, .slice aD aDn aDc, .int .i64 m.clock, .slice aN aNn aNc, .slice aS aSn aSc]] w fun E w' => E = .returned (.bool (Sw.mktOk m)) ∧ Ex w w' := by
  obtain ⟨m1, m2, m3, m4, m5⟩ := hm
  have hm' : RM w 0 aL aLc aLn aP aPc aPn aD aDc aDn aN aNc aNn aS aSc aSn m := ⟨m1, m2, m3, m4, m5⟩
  have b3 := Rs.big m3
  have b4 := Rs.big m4
  have b5 := Rs.big m5
  have l3 := Lib.hid m3.1
  have l4 := Lib.hid m4.1
  have l5 := Lib.hid m5.1
  have e := mktOk_parts m
  have He := Lib.hid e; clear e
  cases hfs : (Sw.ownFold m.log).isSome
  case false =>
    go_enter Try.func45, Try.ntmps45
    go_wp2_with (first | (go_at_call 105; apply Calls.mono; apply sOwnFold_c; ((first | (apply Rs.at0; assumption) | (apply Ow.rs0; assumption)); exact kf_); rintro E w1 ⟨A', c', n', rfl, hr, hb⟩; have hst := xr hb; (try simp only [zA, zC, zD, zN] at hst); obtain ⟨hc, hf, hz⟩ := hst))
    go_ret
    exact ⟨ret_b (by rw [He.out]; simp [mktGate, hfs]), ext_⟩
  cases g1 : Sw.monOk m.purses
  case false =>
    go_enter Try.func45, Try.ntmps45
    go_wp2_with (first | (go_at_call 105; apply Calls.mono; apply sOwnFold_c; ((first | (apply Rs.at0; assumption) | (apply Ow.rs0; assumption)); exact kf_); rintro E w1 ⟨A', c', n', rfl, hr, hb⟩; have hst := xr hb; (try simp only [zA, zC, zD, zN] at hst); obtain ⟨hc, hf, hz⟩ := hst) | (go_at_call 106; apply Calls.mono; apply sMonOk_c; ((first | (apply Rs.at0; assumption) | (apply Ow.rs0; assumption)); exact kf_); rintro E w' ⟨rfl, rfl⟩))
    go_ret
    exact ⟨ret_b (by rw [He.out]; simp [mktGate, g1]), ext_⟩
  by_cases g2 : aDn ≤ 8
  case neg =>
    go_enter Try.func45, Try.ntmps45
    go_wp2_with (first | (go_at_call 105; apply Calls.mono; apply sOwnFold_c; ((first | (apply Rs.at0; assumption) | (apply Ow.rs0; assumption)); exact kf_); rintro E w1 ⟨A', c', n', rfl, hr, hb⟩; have hst := xr hb; (try simp only [zA, zC, zD, zN] at hst); obtain ⟨hc, hf, hz⟩ := hst) | (go_at_call 106; apply Calls.mono; apply sMonOk_c; ((first | (apply Rs.at0; assumption) | (apply Ow.rs0; assumption)); exact kf_); rintro E w' ⟨rfl, rfl⟩))
    go_ret
    exact ⟨ret_b (by rw [He.out, mktGate, ← l3.out]; simp [g2]), ext_⟩
  cases g3 : Sw.inR m.clock 0 99999
  case false =>
    go_enter Try.func45, Try.ntmps45
    go_wp2_with (first | (go_at_call 105; apply Calls.mono; apply sOwnFold_c; ((first | (apply Rs.at0; assumption) | (apply Ow.rs0; assumption)); exact kf_); rintro E w1 ⟨A', c', n', rfl, hr, hb⟩; have hst := xr hb; (try simp only [zA, zC, zD, zN] at hst); obtain ⟨hc, hf, hz⟩ := hst) | (go_at_call 106; apply Calls.mono; apply sMonOk_c; ((first | (apply Rs.at0; assumption) | (apply Ow.rs0; assumption)); exact kf_); rintro E w' ⟨rfl, rfl⟩) | (go_at_call 78; refine (l1In_c _ _ _ _).mono ?_; rintro E w' ⟨rfl, rfl⟩))
    go_ret
    exact ⟨ret_b (by rw [He.out, mktGate, g3]; simp), ext_⟩
  by_cases g4 : aNn = 5
  case neg =>
    have q4 : ((aNn : Int) != 5) = true := by rw [bne_iff_ne]; omega
    go_enter Try.func45, Try.ntmps45
    go_wp2_with (first | (go_at_call 105; apply Calls.mono; apply sOwnFold_c; ((first | (apply Rs.at0; assumption) | (apply Ow.rs0; assumption)); exact kf_); rintro E w1 ⟨A', c', n', rfl, hr, hb⟩; have hst := xr hb; (try simp only [zA, zC, zD, zN] at hst); obtain ⟨hc, hf, hz⟩ := hst) | (go_at_call 106; apply Calls.mono; apply sMonOk_c; ((first | (apply Rs.at0; assumption) | (apply Ow.rs0; assumption)); exact kf_); rintro E w' ⟨rfl, rfl⟩) | (go_at_call 78; refine (l1In_c _ _ _ _).mono ?_; rintro E w' ⟨rfl, rfl⟩))
    go_ret
    exact ⟨ret_b (by rw [He.out, mktGate, ← l4.out]; simp [g4]), ext_⟩
  subst g4
  by_cases g5 : aSn = 5
  case neg =>
    have q5 : ((aSn : Int) != 5) = true := by rw [bne_iff_ne]; omega
    go_enter Try.func45, Try.ntmps45
    go_wp2_with (first | (go_at_call 105; apply Calls.mono; apply sOwnFold_c; ((first | (apply Rs.at0; assumption) | (apply Ow.rs0; assumption)); exact kf_); rintro E w1 ⟨A', c', n', rfl, hr, hb⟩; have hst := xr hb; (try simp only [zA, zC, zD, zN] at hst); obtain ⟨hc, hf, hz⟩ := hst) | (go_at_call 106; apply Calls.mono; apply sMonOk_c; ((first | (apply Rs.at0; assumption) | (apply Ow.rs0; assumption)); exact kf_); rintro E w' ⟨rfl, rfl⟩) | (go_at_call 78; refine (l1In_c _ _ _ _).mono ?_; rintro E w' ⟨rfl, rfl⟩))
    go_ret
    exact ⟨ret_b (by rw [He.out, mktGate, ← l5.out]; simp [g5]), ext_⟩
  subst g5
  have hgate : mktGate m = true := by simp [mktGate, hfs, g1, g3, ← l3.out, ← l4.out, ← l5.out, g2]
  obtain ⟨rows, hrows⟩ := Option.isSome_iff_exists.1 hfs
  have hro := Sw.ownFold_ok hrows
  have h8 := Sw.ownOk_len hro
  have hg : (Sw.ownFold m.log).getD [] = rows := by rw [hrows]; rfl
  have e2 := He.out
  rw [hgate, Sw.mktRows_of hrows, Bool.true_and] at e2
  have HE := Lib.hid e2
  have HG := Lib.hid hg
  have H8 := Lib.hid h8
  have HR := Lib.hid hrows
  have HO := Lib.hid hro
  obtain ⟨ck0, ck1⟩ := Sw.inR_iff.1 g3
  clear e2 hg h8 He hgate hrows hro
  go_enter Try.func45, Try.ntmps45
  go_wp2_with (first | (go_at_call 105; apply Calls.mono; apply sOwnFold_c; ((first | (apply Rs.at0; assumption) | (apply Ow.rs0; assumption)); exact kf_); rintro E w1 ⟨A1, c1, n1, rfl, ho1, hb⟩; rw [HG.out] at ho1; have hst := xr hb; (try simp only [zA, zC, zD] at hst); obtain ⟨hc, hf, hz⟩ := hst; obtain rfl : n1 = 8 := by rw [ho1.1, H8.out]) | (go_at_call 106; apply Calls.mono; apply sMonOk_c; ((first | (apply Rs.at0; assumption) | (apply Ow.rs0; assumption)); exact kf_); rintro E w' ⟨rfl, rfl⟩) | (go_at_call 78; refine (l1In_c _ _ _ _).mono ?_; rintro E w' ⟨rfl, rfl⟩))
  have hrr := ho1.rs
  go_loopw [5] (fun i wr => ∃ (k : Nat) (p : Int), k ≤ aDn ∧ i = .int .i64 k ∧ Ex w1 wr ∧ LastAt m.deals k p ∧ Sw.dealsOk m.clock rows (-1) m.deals = Sw.dealsOk m.clock rows p (m.deals.drop k)) (fun i _ => aDn - (intOf i).toNat)
  case atStart => exact ⟨0, -1, Nat.zero_le _, rfl, Ch.refl _ _, .inl ⟨rfl, rfl⟩, rfl⟩
  case round =>
    obtain ⟨k, p, hk, rfl, hb2, hp, hrel⟩ := hrel
    have hst := xr hb2
    obtain ⟨hc2, hf2, hz2⟩ := hst
    by_cases hlt : k < aDn
    · obtain ⟨g, off, y, rfl, hg0, hg, hd, hy, q0, q1, q2, q3, q4⟩ := at_D m3 hlt
      rw [hd, dealsOk_cons] at hrel
      have Hrel := Lib.hid hrel
      have Hy := Lib.hid hy
      clear hd hy hrel
      cases c1 : Sw.inR y.ticket 0 7
      case false =>
        have DB := dealOk_b (clock := m.clock) (d := y) HO.out rfl
        have DB := Lib.hid DB
        clear hp
        go_wp2_with fail
        go_quiet ((first | (go_at_call 78; exact Calls.quiet_same (l1In_c _ _ _ _)) | (go_at_call 107; exact Calls.quiet_same (sEntCap_c _ _))))
        go_wp2
        go_ret
        exact ⟨ret_b (by rw [HE.out, Hrel.out, DB.out, c1]; simp), ext_⟩
      obtain ⟨y0, y7⟩ := Sw.inR_iff.1 c1
      obtain ⟨t, ht⟩ := Int.eq_ofNat_of_zero_le y0
      have e0 : y.ticket.toNat = t := by omega
      have ht8 : t < 8 := by omega
      have y8 : y.ticket < 8 := by omega
      have HT := Lib.hid ht
      clear ht
      obtain ⟨gr, offr, r, hA1, hgr0, hgr, hdr, hyr, r0, r1, r2⟩ := at_R hrr ht8
      cases hA1
      have hrow : Sw.rowAt rows y.ticket = r := by simp [Sw.rowAt, e0, hyr]
      have DB := dealOk_b (clock := m.clock) HO.out hrow
      have DB := Lib.hid DB
      clear hdr hyr hrow
      obtain ⟨yt, ys, yp, yb, yd⟩ := y
      obtain ⟨rw_, rf, ru⟩ := r
      dsimp only at q0 q1 q2 q3 q4 r0 r1 r2 c1 y0 y7 y8 e0
      have hpp : (∃ j : Nat, ∃ yj : Sw.Deal, k = j + 1 ∧ p = yj.ticket ∧ m.deals[j]? = some yj ∧ yt ≤ p) ∨ p < yt := by
        rcases hp with ⟨rfl, rfl⟩ | ⟨j, yj, rfl, hj, rfl, hj0⟩
        · exact .inr (by omega)
        · by_cases h : yt ≤ yj.ticket
          · exact .inl ⟨j, yj, rfl, rfl, hj, h⟩
          · exact .inr (by omega)
      rcases hpp with ⟨j, yj, rfl, rfl, hj, hle⟩ | hpy
      · obtain ⟨g', off', yj', hA', _, _, _, hyj', p0, _⟩ := at_D m3 (show j < aDn by omega)
        cases hA'
        obtain rfl : yj' = yj := by rw [hj] at hyj'; exact (Option.some.inj hyj').symm
        clear hj hyj' hp
        have t1 : ((j : Int) + 1).toNat = j + 1 := by omega
        have t2 : IntKind.i64.wrap ((j : Int) + 1 - 1) = j := by rw [IntWalk.i64_in _ (by omega)]; omega
        have t3 : (0 : Int) ≤ (j : Int) + 1 := by omega
        have t4 : (j : Int) + 1 < (aDn : Int) := by omega
        have t5 : (j : Int) < (aDn : Int) := by omega
        have t6 : (0 : Int) < (j : Int) + 1 := by omega
        go_wp2_with fail
        go_quiet ((first | (go_at_call 78; exact Calls.quiet_same (l1In_c _ _ _ _)) | (go_at_call 107; exact Calls.quiet_same (sEntCap_c _ _))))
        go_wp2
        go_ret
        exact ⟨ret_b (by rw [HE.out, Hrel.out, show decide (yj'.ticket < yt) = false from by simp; omega]; simp), ext_⟩
      have hgd : k = 0 ∨ ∃ j : Nat, ∃ pj : Int, k = j + 1 ∧ w.cell? ⟨g, off + j * 5, none⟩ = some (.int .i64 pj) ∧ ¬ (yt ≤ pj) := by
        rcases hp with ⟨rfl, rfl⟩ | ⟨j, yj, rfl, hj, rfl, hj0⟩
        · exact .inl rfl
        · obtain ⟨g', off', yj', hA', _, _, _, hyj', p0, _⟩ := at_D m3 (show j < aDn by omega)
          cases hA'
          obtain rfl : yj' = yj := by rw [hj] at hyj'; exact (Option.some.inj hyj').symm
          exact .inr ⟨j, yj'.ticket, rfl, p0, by omega⟩
      clear hp
      have fin : ∀ b : Bool, Sw.dealOk m.clock rows ⟨yt, ys, yp, yb, yd⟩ = b → (b = false → false = Sw.mktOk m) ∧ (b = true → Sw.dealsOk m.clock rows (-1) m.deals = Sw.dealsOk m.clock rows yt (m.deals.drop (k + 1))) := by
        intro b hb
        refine ⟨fun h => ?_, fun h => ?_⟩
        · rw [HE.out, Hrel.out, hb, h]; simp
        · rw [Hrel.out, hb, h]; simp [hpy]
      have Fin := Lib.hid fin
      have Lst : LastAt m.deals (k + 1) yt := .inr ⟨k, _, rfl, Hy.out, rfl, y0⟩
      have Lst := Lib.hid Lst
      clear fin hpy Hrel
      rcases hgd with rfl | ⟨j, pj, rfl, p0, hpj⟩
      · simp only [Nat.zero_mul, Nat.add_zero] at q0 q1 q2 q3 q4
        
        cases c3 : decide (rw_ = ys)
        case false =>
          have c3' : (rw_ != ys) = true := by rw [bne_iff_ne]; exact of_decide_eq_false c3
          (go_wp2_with fail; go_quiet ((first | (go_at_call 78; exact Calls.quiet_same (l1In_c _ _ _ _)) | (go_at_call 107; exact Calls.quiet_same (sEntCap_c _ _)))); go_wp2; go_ret)
          exact ⟨ret_b ((Fin.out _ rfl).1 (by rw [DB.out]; simp [c3])), (by exact ext_)⟩
        have c3' : (rw_ != ys) = false := by rw [bne_eq_false_iff_eq]; exact of_decide_eq_true c3
        cases c4 : (ys == 0)
        case true =>
          (go_wp2_with fail; go_quiet ((first | (go_at_call 78; exact Calls.quiet_same (l1In_c _ _ _ _)) | (go_at_call 107; exact Calls.quiet_same (sEntCap_c _ _)))); go_wp2; go_ret)
          exact ⟨ret_b ((Fin.out _ rfl).1 (by rw [DB.out]; simp [(show ys = 0 by simpa using c4)])), (by exact ext_)⟩
        cases ru
        case true =>
          (go_wp2_with fail; go_quiet ((first | (go_at_call 78; exact Calls.quiet_same (l1In_c _ _ _ _)) | (go_at_call 107; exact Calls.quiet_same (sEntCap_c _ _)))); go_wp2; go_ret)
          exact ⟨ret_b ((Fin.out _ rfl).1 (by rw [DB.out]; simp [])), (by exact ext_)⟩
        cases c6 : Sw.inR yp 1 (Sw.entCap rf)
        case false =>
          (go_wp2_with fail; go_quiet ((first | (go_at_call 78; exact Calls.quiet_same (l1In_c _ _ _ _)) | (go_at_call 107; exact Calls.quiet_same (sEntCap_c _ _)))); go_wp2; go_ret)
          exact ⟨ret_b ((Fin.out _ rfl).1 (by rw [DB.out]; simp [c6])), (by exact ext_)⟩
        have c4' : ys ≠ 0 := by simpa using c4
        have C4 := Lib.hid c4'
        clear c4'
        by_cases b0 : yb = 0
        · have b1 : (yb == 0) = true := by simp [b0]
          have b2 : (yb != 0) = false := by simp [b0]
          have B0 := Lib.hid b0
          clear b0
          by_cases d0 : yd = 0
          · have d1 : (yd != 0) = false := by simp [d0]
            have D0 := Lib.hid d0
            clear d0
            (go_wp2_with fail; go_quiet ((first | (go_at_call 78; exact Calls.quiet_same (l1In_c _ _ _ _)) | (go_at_call 107; exact Calls.quiet_same (sEntCap_c _ _)))); go_wp2_with (first | (go_at_call 78; refine (l1In_c _ _ _ _).mono ?_; rintro E w' ⟨rfl, rfl⟩)))
            exact ⟨⟨0 + 1, yt, by omega, by go_num, (by exact ext_), Lst.out, (Fin.out _ rfl).2 (by rw [DB.out]; simp [c3, c6, buyerOk, B0.out, D0.out, C4.out] <;> first | done | omega)⟩, by simp [intOf]; omega⟩
          · have d1 : (yd != 0) = true := by simp [d0]
            have D0 := Lib.hid d0
            clear d0
            (go_wp2_with fail; go_quiet ((first | (go_at_call 78; exact Calls.quiet_same (l1In_c _ _ _ _)) | (go_at_call 107; exact Calls.quiet_same (sEntCap_c _ _)))); go_wp2_with (first | (go_at_call 78; refine (l1In_c _ _ _ _).mono ?_; rintro E w' ⟨rfl, rfl⟩)))
            (go_ret; exact ⟨ret_b ((Fin.out _ rfl).1 (by rw [DB.out]; simp [buyerOk, B0.out, D0.out, C4.out])), (by exact ext_)⟩)
        have b1 : (yb == 0) = false := by simp [b0]
        have b2 : (yb != 0) = true := by simp [b0]
        have B0 := Lib.hid b0
        clear b0
        cases c7 : Sw.inR yb 1 5
        case false =>
          (go_wp2_with fail; go_quiet ((first | (go_at_call 78; exact Calls.quiet_same (l1In_c _ _ _ _)) | (go_at_call 107; exact Calls.quiet_same (sEntCap_c _ _)))); go_wp2_with (first | (go_at_call 78; refine (l1In_c _ _ _ _).mono ?_; rintro E w' ⟨rfl, rfl⟩)))
          (go_ret; exact ⟨ret_b ((Fin.out _ rfl).1 (by rw [DB.out]; simp [buyerOk, B0.out, c7])), (by exact ext_)⟩)
        by_cases d0 : yb = ys
        · have d1 : (yb == ys) = true := by simp [d0]
          have D0 := Lib.hid d0
          clear d0
          (go_wp2_with fail; go_quiet ((first | (go_at_call 78; exact Calls.quiet_same (l1In_c _ _ _ _)) | (go_at_call 107; exact Calls.quiet_same (sEntCap_c _ _)))); go_wp2_with (first | (go_at_call 78; refine (l1In_c _ _ _ _).mono ?_; rintro E w' ⟨rfl, rfl⟩)))
          (go_ret; exact ⟨ret_b ((Fin.out _ rfl).1 (by rw [DB.out]; simp [buyerOk, B0.out, D0.out, C4.out])), (by exact ext_)⟩)
        have d1 : (yb == ys) = false := by simp [d0]
        have D0 := Lib.hid d0
        clear d0
        cases c9 : Sw.inR yd m.clock (m.clock + 5)
        case false =>
          (go_wp2_with fail; go_quiet ((first | (go_at_call 78; exact Calls.quiet_same (l1In_c _ _ _ _)) | (go_at_call 107; exact Calls.quiet_same (sEntCap_c _ _)))); go_wp2_with (first | (go_at_call 78; refine (l1In_c _ _ _ _).mono ?_; rintro E w' ⟨rfl, rfl⟩)))
          (go_ret; exact ⟨ret_b ((Fin.out _ rfl).1 (by rw [DB.out]; simp [buyerOk, B0.out, c9])), (by exact ext_)⟩)
        (go_wp2_with fail; go_quiet ((first | (go_at_call 78; exact Calls.quiet_same (l1In_c _ _ _ _)) | (go_at_call 107; exact Calls.quiet_same (sEntCap_c _ _)))); go_wp2_with (first | (go_at_call 78; refine (l1In_c _ _ _ _).mono ?_; rintro E w' ⟨rfl, rfl⟩)))
        exact ⟨⟨0 + 1, yt, by omega, by go_num, (by exact ext_), Lst.out, (Fin.out _ rfl).2 (by rw [DB.out]; simp [c3, c6, buyerOk, B0.out, D0.out, C4.out, c7, c9] <;> first | done | omega)⟩, by simp [intOf]; omega⟩

      · have t1 : ((j : Int) + 1).toNat = j + 1 := by omega
        have t2 : IntKind.i64.wrap ((j : Int) + 1 - 1) = j := by rw [IntWalk.i64_in _ (by omega)]; omega
        have t3 : (0 : Int) ≤ (j : Int) + 1 := by omega
        have t4 : (j : Int) + 1 < (aDn : Int) := by omega
        have t5 : (j : Int) < (aDn : Int) := by omega
        have t6 : (0 : Int) < (j : Int) + 1 := by omega
        have t7 : decide (yt ≤ pj) = false := by simp; omega
        
        cases c3 : decide (rw_ = ys)
        case false =>
          have c3' : (rw_ != ys) = true := by rw [bne_iff_ne]; exact of_decide_eq_false c3
          (go_wp2_with fail; go_quiet ((first | (go_at_call 78; exact Calls.quiet_same (l1In_c _ _ _ _)) | (go_at_call 107; exact Calls.quiet_same (sEntCap_c _ _)))); go_wp2; go_ret)
          exact ⟨ret_b ((Fin.out _ rfl).1 (by rw [DB.out]; simp [c3])), (by exact ext_)⟩
        have c3' : (rw_ != ys) = false := by rw [bne_eq_false_iff_eq]; exact of_decide_eq_true c3
        cases c4 : (ys == 0)
        case true =>
          (go_wp2_with fail; go_quiet ((first | (go_at_call 78; exact Calls.quiet_same (l1In_c _ _ _ _)) | (go_at_call 107; exact Calls.quiet_same (sEntCap_c _ _)))); go_wp2; go_ret)
          exact ⟨ret_b ((Fin.out _ rfl).1 (by rw [DB.out]; simp [(show ys = 0 by simpa using c4)])), (by exact ext_)⟩
        cases ru
        case true =>
          (go_wp2_with fail; go_quiet ((first | (go_at_call 78; exact Calls.quiet_same (l1In_c _ _ _ _)) | (go_at_call 107; exact Calls.quiet_same (sEntCap_c _ _)))); go_wp2; go_ret)
          exact ⟨ret_b ((Fin.out _ rfl).1 (by rw [DB.out]; simp [])), (by exact ext_)⟩
        cases c6 : Sw.inR yp 1 (Sw.entCap rf)
        case false =>
          (go_wp2_with fail; go_quiet ((first | (go_at_call 78; exact Calls.quiet_same (l1In_c _ _ _ _)) | (go_at_call 107; exact Calls.quiet_same (sEntCap_c _ _)))); go_wp2; go_ret)
          exact ⟨ret_b ((Fin.out _ rfl).1 (by rw [DB.out]; simp [c6])), (by exact ext_)⟩
        have c4' : ys ≠ 0 := by simpa using c4
        have C4 := Lib.hid c4'
        clear c4'
        by_cases b0 : yb = 0
        · have b1 : (yb == 0) = true := by simp [b0]
          have b2 : (yb != 0) = false := by simp [b0]
          have B0 := Lib.hid b0
          clear b0
          by_cases d0 : yd = 0
          · have d1 : (yd != 0) = false := by simp [d0]
            have D0 := Lib.hid d0
            clear d0
            (go_wp2_with fail; go_quiet ((first | (go_at_call 78; exact Calls.quiet_same (l1In_c _ _ _ _)) | (go_at_call 107; exact Calls.quiet_same (sEntCap_c _ _)))); go_wp2_with (first | (go_at_call 78; refine (l1In_c _ _ _ _).mono ?_; rintro E w' ⟨rfl, rfl⟩)))
            exact ⟨⟨j + 1 + 1, yt, by omega, by go_num, (by exact ext_), Lst.out, (Fin.out _ rfl).2 (by rw [DB.out]; simp [c3, c6, buyerOk, B0.out, D0.out, C4.out] <;> first | done | omega)⟩, by simp [intOf]; omega⟩
          · have d1 : (yd != 0) = true := by simp [d0]
            have D0 := Lib.hid d0
            clear d0
            (go_wp2_with fail; go_quiet ((first | (go_at_call 78; exact Calls.quiet_same (l1In_c _ _ _ _)) | (go_at_call 107; exact Calls.quiet_same (sEntCap_c _ _)))); go_wp2_with (first | (go_at_call 78; refine (l1In_c _ _ _ _).mono ?_; rintro E w' ⟨rfl, rfl⟩)))
            (go_ret; exact ⟨ret_b ((Fin.out _ rfl).1 (by rw [DB.out]; simp [buyerOk, B0.out, D0.out, C4.out])), (by exact ext_)⟩)
        have b1 : (yb == 0) = false := by simp [b0]
        have b2 : (yb != 0) = true := by simp [b0]
        have B0 := Lib.hid b0
        clear b0
        cases c7 : Sw.inR yb 1 5
        case false =>
          (go_wp2_with fail; go_quiet ((first | (go_at_call 78; exact Calls.quiet_same (l1In_c _ _ _ _)) | (go_at_call 107; exact Calls.quiet_same (sEntCap_c _ _)))); go_wp2_with (first | (go_at_call 78; refine (l1In_c _ _ _ _).mono ?_; rintro E w' ⟨rfl, rfl⟩)))
          (go_ret; exact ⟨ret_b ((Fin.out _ rfl).1 (by rw [DB.out]; simp [buyerOk, B0.out, c7])), (by exact ext_)⟩)
        by_cases d0 : yb = ys
        · have d1 : (yb == ys) = true := by simp [d0]
          have D0 := Lib.hid d0
          clear d0
          (go_wp2_with fail; go_quiet ((first | (go_at_call 78; exact Calls.quiet_same (l1In_c _ _ _ _)) | (go_at_call 107; exact Calls.quiet_same (sEntCap_c _ _)))); go_wp2_with (first | (go_at_call 78; refine (l1In_c _ _ _ _).mono ?_; rintro E w' ⟨rfl, rfl⟩)))
          (go_ret; exact ⟨ret_b ((Fin.out _ rfl).1 (by rw [DB.out]; simp [buyerOk, B0.out, D0.out, C4.out])), (by exact ext_)⟩)
        have d1 : (yb == ys) = false := by simp [d0]
        have D0 := Lib.hid d0
        clear d0
        cases c9 : Sw.inR yd m.clock (m.clock + 5)
        case false =>
          (go_wp2_with fail; go_quiet ((first | (go_at_call 78; exact Calls.quiet_same (l1In_c _ _ _ _)) | (go_at_call 107; exact Calls.quiet_same (sEntCap_c _ _)))); go_wp2_with (first | (go_at_call 78; refine (l1In_c _ _ _ _).mono ?_; rintro E w' ⟨rfl, rfl⟩)))
          (go_ret; exact ⟨ret_b ((Fin.out _ rfl).1 (by rw [DB.out]; simp [buyerOk, B0.out, c9])), (by exact ext_)⟩)
        (go_wp2_with fail; go_quiet ((first | (go_at_call 78; exact Calls.quiet_same (l1In_c _ _ _ _)) | (go_at_call 107; exact Calls.quiet_same (sEntCap_c _ _)))); go_wp2_with (first | (go_at_call 78; refine (l1In_c _ _ _ _).mono ?_; rintro E w' ⟨rfl, rfl⟩)))
        exact ⟨⟨j + 1 + 1, yt, by omega, by go_num, (by exact ext_), Lst.out, (Fin.out _ rfl).2 (by rw [DB.out]; simp [c3, c6, buyerOk, B0.out, D0.out, C4.out, c7, c9] <;> first | done | omega)⟩, by simp [intOf]; omega⟩

    · rw [List.drop_of_length_le (by have := l3.out; omega)] at hrel
      have hdk : Sw.DOk m.clock rows m.deals := Sw.dealsOk_iff'.1 hrel
      have hS := Sw.monSum_bd g1
      have hH := Sw.heldSum_bd hdk.1
      rw [← Sw.heldOf_eq hdk (by have := l3.out; omega), ← l3.out] at hH
      have hsum : IntKind.i64.wrap (Sw.monSum m.purses + Sw.mktHeld m) = Sw.monSum m.purses + Sw.mktHeld m := by
        rw [IntWalk.i64_in _ (by unfold Sw.mktHeld; omega)]
      have Hsum := Lib.hid hsum
      have Hrel := Lib.hid hrel; clear hrel hp hdk hS hH hsum
      go_wp2_with fail
      go_loopw [7] (fun i wx => ∃ (k : Nat), k ≤ 5 ∧ i = .int .i64 k ∧ Ex w1 wx ∧ Sw.numsOk m.nums m.said = Sw.numsOk (m.nums.drop k) (m.said.drop k)) (fun i _ => 5 - (intOf i).toNat)
      case atStart => exact ⟨0, Nat.zero_le _, rfl, ext_, rfl⟩
      case round =>
        obtain ⟨k', hk', rfl, hb3, hrel⟩ := hrel
        have hst := xr hb3
        obtain ⟨hc3, hf3, hz3⟩ := hst
        by_cases hlt' : k' < 5
        · obtain ⟨gn, offn, a, rfl, hgn0, hgn, hdn, hyn, hcn⟩ := at_I m4 hlt'
          obtain ⟨gs, offs, b, rfl, hgs0, hgs, hds, hys, hcs⟩ := at_I m5 hlt'
          rw [numsOk_at hdn hds] at hrel
          have HN := Lib.hid hrel
          clear hdn hyn hds hys hrel
          cases c1 : Sw.inR a 0 99999
          case false =>
            go_wp2_with fail
            go_quiet ((first | (go_at_call 78; exact Calls.quiet_same (l1In_c _ _ _ _))))
            go_wp2
            go_ret
            exact ⟨ret_b (by rw [HE.out, HN.out, Sw.numOk, c1]; simp), ext_⟩
          cases c2 : Sw.inR b 0 6
          case false =>
            go_wp2_with fail
            go_quiet ((first | (go_at_call 78; exact Calls.quiet_same (l1In_c _ _ _ _))))
            go_wp2
            go_ret
            exact ⟨ret_b (by rw [HE.out, HN.out, Sw.numOk, c2]; simp), ext_⟩
          cases c3 : (a == 0)
          all_goals cases c4 : (b == 0)
          all_goals
            go_wp2_with fail
            go_quiet ((first | (go_at_call 78; exact Calls.quiet_same (l1In_c _ _ _ _))))
            go_wp2
            first
              | exact ⟨⟨k' + 1, by omega, by go_num, ext_, by rw [HN.out, Sw.numOk, c1, c2, ← beqI, ← beqI, c3, c4]; simp⟩, by simp [intOf]; omega⟩ | (go_ret; exact ⟨ret_b (by rw [HE.out, HN.out, Sw.numOk, ← beqI, ← beqI, c3, c4]; simp), ext_⟩)
        · have HN := Lib.hid hrel; clear hrel
          go_wp2_with fail
          (refine wp_name ?_; intro W0 hb0; have hst := xr hb0; (try simp only [zA, zC, zD, zN] at hst); obtain ⟨hc0, hf0, hz0⟩ := hst; go_region_held3 (fun w' => Held W0 w') ((first | with_reducible assumption | with_reducible exact Held.start _ | with_reducible exact Held.of (by assumption) | with_reducible exact Held.ex (by assumption) (by assumption) | ((repeat (first | with_reducible refine Held.set ?_ (by simp only [zA, zC, zD, zN]; omega) | with_reducible refine Held.alloc ?_ _ | with_reducible refine Held.drew ?_)); (first | with_reducible assumption | with_reducible exact Held.refl _ | with_reducible exact Held.of (by assumption) | with_reducible exact Held.ex (by assumption) (by assumption))) | exact Held.of (by exact ext_))) ((first | (go_at_call 108; apply Calls.mono; apply sMonSum_c; ((first | (apply Rs.at0; assumption) | (apply Ow.rs0; assumption)); exact kf_); rintro E w' ⟨rfl, rfl⟩) | (go_at_call 109; apply Calls.mono; apply sMktHeld_c; ((first | (apply RM.at0; assumption)); exact kf_); rintro E w1 ⟨rfl, hb⟩; have hst := xr hb; (try simp only [zA, zC, zD, zN] at hst); obtain ⟨hc, hf, hz⟩ := hst))); all_goals (have hb := And.right (by assumption : Held W0 _); have hst := xr hb; (try simp only [zA, zC, zD, zN] at hst); obtain ⟨hc, hf, hz⟩ := hst))
          go_wp2
          go_ret
          refine ⟨ret_b ?_, ext_⟩
          rw [HE.out, HN.out, Hrel.out, List.drop_of_length_le (by have := l4.out; omega), Hsum.out]
          simp [Sw.dealsOk, Sw.numsOk]
end Go.Proofs.Ytgceeggfdomdjaa

namespace Go.Proofs.Ytgceeggfdomdjaa
set_option maxRecDepth 100000
set_option linter.unusedSimpArgs false
set_option linter.unusedVariables false
open Go.RowKit Go
set_option maxHeartbeats 2000000

/-- The end of a function that has handed its market on: w0 its beginning, W where it hands on, w1 behind that, w' its end. -/
theorem kindEnd {τ τ1 : Nat → Nat} {w0 W w1 w' : World} {lo c : Nat} {bL : Option Addr} {bLc bLn : Nat} {bP : Option Addr} {bPc bPn : Nat} {bD : Option Addr} {bDc bDn : Nat} {bN : Option Addr} {bNc bNn : Nat} {bS : Option Addr} {bSc bSn : Nat} {x : Sw.Mkt × Int} (ho : OwM τ1 w1 lo bL bLc bLn bP bPc bPn bD bDc bDn bN bNc bNn bS bSc bSn x.1) (hτ : ∀ b, b < W.heap.size → τ1 b = glue τ w0.heap.size (fun _ => 0) b) (hb : Ch (SM lo (glue τ w0.heap.size (fun _ => 0))) W w1)
    (h0 : Ex w0 W) (hc : w0.heap.size + c ≤ W.heap.size) (hx : Ch (BX w0.heap.size (w0.heap.size + c)) w1 w') : MktPost lo τ w0 w' (.returned (.tuple #[.agg #[.slice bL bLn bLc, .slice bP bPn bPc, .slice bD bDn bDc, .int .i64 x.1.clock, .slice bN bNn bNc, .slice bS bSn bSc], .int .i64 x.2])) x := by
  refine ⟨_, _, _, _, _, _, _, _, _, _, _, _, _, _, _, τ1, rfl, ho.box hx (fun b h1 h2 => (hτ b (by omega)).trans (if_neg (by omega))), fun b hb => (hτ b (Nat.lt_of_lt_of_le hb h0.size)).trans (if_pos hb), ?_⟩
  refine (Ch.trans' (Ex.ch h0) hb (fun i hi h => ?_)).trans' hx (fun i hi h => absurd h.1 (by omega))
  have h1 := h.1; have h2 := h.2.1; have h3 := h.2.2
  rw [show glue τ w0.heap.size (fun _ => 0) i = τ i from if_pos hi] at h2 h3
  exact ⟨h1, h2, h3⟩
theorem sKind_c (aL : Option Addr) (aLc aLn : Nat) (aP : Option Addr) (aPc aPn : Nat) (aD : Option Addr) (aDc aDn : Nat) (aN : Option Addr) (aNc aNn : Nat) (aS : Option Addr) (aSc aSn : Nat) (m : Sw.Mkt) (r : Sw.Req) (rows : List Sw.Row) (lo : Nat) (τ : Nat → Nat) (w : World) (hM : OwM τ w lo aL aLc aLn aP aPc aPn aD aDc aDn aN aNc aNn aS aSc aSn m) (hok : Sw.MOk m rows) (hr : Sw.reqOk r = true) (hlo : lo ≤ w.heap.size) : Calls Try.prog 160 #[.agg #[.slice aL aLn aLc, .slice aP aPn aPc, .slice aD aDn aDc, .int .i64 m.clock, .slice aN aNn aNc, .slice aS aSn aSc], .agg #[.int .i64 r.user, .int .i64 r.n, .int .i64 r.kind, .int .i64 r.ticket, .int .i64 r.who, .int .i64 r.price]] w fun E w' => MktPost lo τ w w' E (Sw.effect m r) := by
  have hr' := Sw.reqOk_iff.1 hr
  have hrow := (rows8 hok).1
  obtain ⟨ru, rn, rk, rt, rh, rp⟩ := r
  dsimp only at hr'
  obtain ⟨t, rfl⟩ := Int.eq_ofNat_of_zero_le (show 0 ≤ rt by omega)
  have ht : t < 8 := by omega
  obtain ⟨⟨u1, u5⟩, -, hk, -, -⟩ := hr'
  have HR := Lib.hid hr
  have HW := Lib.hid hrow
  have HK := Lib.hid hok
  clear hr hrow hok
  have hG := hM.glueL (τ' := fun _ => 0) (Nat.le_refl _)
  have hM1 := hM.rm
  rcases (show rk = 1 ∨ rk = 2 ∨ rk = 3 ∨ rk = 4 ∨ rk = 5 ∨ rk = 6 by omega) with rfl | rfl | rfl | rfl | rfl | rfl
  · have e : Sw.effect m ⟨ru, rn, 1, t, rh, rp⟩ = Sw.issue m ⟨ru, rn, 1, t, rh, rp⟩ (Sw.rowAt rows t) := by unfold Sw.effect; rw [HW.out]; rfl
    rw [e]; clear e hk
    go_enter Try.func160, Try.ntmps160
    go_wp2_with fail
    apply Calls.mono
    apply (sIssue_c (m := m) (r := ⟨ru, rn, 1, t, rh, rp⟩) (rows := rows) (τ := glue τ w.heap.size (fun _ => 0)))
    · exact hG.keepF kf_
    · exact HK.out
    · exact HR.out
    · rfl
    · exact sz_
    rintro E w1 ⟨bL, bLc, bLn, bP, bPc, bPn, bD, bDc, bDn, bN, bNc, bNn, bS, bSc, bSn, τ1, rfl, ho, hτ, hb⟩
    obtain ⟨hB0, hF0⟩ := Ch.sm_keep hb (g := w.heap.size + 1 + 1) sz_ (if_neg (by omega))
    have hz := hb.size
    (try simp only [zA, zC, zD, zN] at hz)
    go_wp2_with fail
    refine bodyPost_ret (v := .tuple #[.agg #[.slice bL bLn bLc, .slice bP bPn bPc, .slice bD bDn bDc, .int .i64 (Sw.issue m ⟨ru, rn, 1, t, rh, rp⟩ (Sw.rowAt rows t)).1.clock, .slice bN bNn bNc, .slice bS bSn bSc], .int .i64 (Sw.issue m ⟨ru, rn, 1, t, rh, rp⟩ (Sw.rowAt rows t)).2]) (by simp [results, Try.results160, go_sem, *]) rfl ?_
    exact kindEnd (c := 3) ho hτ hb ext_ sz_ bx_
  · have e : Sw.effect m ⟨ru, rn, 2, t, rh, rp⟩ = Sw.offer m ⟨ru, rn, 2, t, rh, rp⟩ (Sw.rowAt rows t) (Sw.dealAt m.deals t) := by unfold Sw.effect; rw [HW.out]; rfl
    rw [e]; clear e hk
    go_enter Try.func160, Try.ntmps160
    go_wp2_with fail
    apply Calls.mono
    apply (sOffer_c (m := m) (rows := rows) (τ := glue τ w.heap.size (fun _ => 0)))
    · exact hG.keepF kf_
    · exact HK.out
    · exact ht
    · exact sz_
    rintro E w1 ⟨bL, bLc, bLn, bP, bPc, bPn, bD, bDc, bDn, bN, bNc, bNn, bS, bSc, bSn, τ1, rfl, ho, hτ, hb⟩
    obtain ⟨hB0, hF0⟩ := Ch.sm_keep hb (g := w.heap.size + 1 + 1) sz_ (if_neg (by omega))
    have hz := hb.size
    (try simp only [zA, zC, zD, zN] at hz)
    go_wp2_with fail
    refine bodyPost_ret (v := .tuple #[.agg #[.slice bL bLn bLc, .slice bP bPn bPc, .slice bD bDn bDc, .int .i64 (Sw.offer m ⟨ru, rn, 2, t, rh, rp⟩ (Sw.rowAt rows t) (Sw.dealAt m.deals t)).1.clock, .slice bN bNn bNc, .slice bS bSn bSc], .int .i64 (Sw.offer m ⟨ru, rn, 2, t, rh, rp⟩ (Sw.rowAt rows t) (Sw.dealAt m.deals t)).2]) (by simp [results, Try.results160, go_sem, *]) rfl ?_
    exact kindEnd (c := 3) ho hτ hb ext_ sz_ bx_
  · have e : Sw.effect m ⟨ru, rn, 3, t, rh, rp⟩ = Sw.dropIt m ⟨ru, rn, 3, t, rh, rp⟩ (Sw.rowAt rows t) (Sw.dealAt m.deals t) := by unfold Sw.effect; rw [HW.out]; rfl
    rw [e]; clear e hk
    go_enter Try.func160, Try.ntmps160
    go_wp2_with fail
    apply Calls.mono
    apply (sDrop_c (m := m) (rows := rows) (τ := glue τ w.heap.size (fun _ => 0)))
    · exact hG.keepF kf_
    · exact HK.out
    · exact ht
    · exact sz_
    rintro E w1 ⟨bL, bLc, bLn, bP, bPc, bPn, bD, bDc, bDn, bN, bNc, bNn, bS, bSc, bSn, τ1, rfl, ho, hτ, hb⟩
    obtain ⟨hB0, hF0⟩ := Ch.sm_keep hb (g := w.heap.size + 1 + 1) sz_ (if_neg (by omega))
    have hz := hb.size
    (try simp only [zA, zC, zD, zN] at hz)
    go_wp2_with fail
    refine bodyPost_ret (v := .tuple #[.agg #[.slice bL bLn bLc, .slice bP bPn bPc, .slice bD bDn bDc, .int .i64 (Sw.dropIt m ⟨ru, rn, 3, t, rh, rp⟩ (Sw.rowAt rows t) (Sw.dealAt m.deals t)).1.clock, .slice bN bNn bNc, .slice bS bSn bSc], .int .i64 (Sw.dropIt m ⟨ru, rn, 3, t, rh, rp⟩ (Sw.rowAt rows t) (Sw.dealAt m.deals t)).2]) (by simp [results, Try.results160, go_sem, *]) rfl ?_
    exact kindEnd (c := 3) ho hτ hb ext_ sz_ bx_
  · have e : Sw.effect m ⟨ru, rn, 4, t, rh, rp⟩ = Sw.fund m ⟨ru, rn, 4, t, rh, rp⟩ (Sw.dealAt m.deals t) := by unfold Sw.effect; rw [HW.out]; rfl
    rw [e]; clear e hk
    go_enter Try.func160, Try.ntmps160
    go_wp2_with fail
    apply Calls.mono
    apply (sFund_c (m := m) (rows := rows) (τ := glue τ w.heap.size (fun _ => 0)))
    · exact hG.keepF kf_
    · exact HK.out
    · exact ht
    · exact u1
    · exact u5
    · exact sz_
    rintro E w1 ⟨bL, bLc, bLn, bP, bPc, bPn, bD, bDc, bDn, bN, bNc, bNn, bS, bSc, bSn, τ1, rfl, ho, hτ, hb⟩
    obtain ⟨hB0, hF0⟩ := Ch.sm_keep hb (g := w.heap.size + 1 + 1) sz_ (if_neg (by omega))
    have hz := hb.size
    (try simp only [zA, zC, zD, zN] at hz)
    go_wp2_with fail
    refine bodyPost_ret (v := .tuple #[.agg #[.slice bL bLn bLc, .slice bP bPn bPc, .slice bD bDn bDc, .int .i64 (Sw.fund m ⟨ru, rn, 4, t, rh, rp⟩ (Sw.dealAt m.deals t)).1.clock, .slice bN bNn bNc, .slice bS bSn bSc], .int .i64 (Sw.fund m ⟨ru, rn, 4, t, rh, rp⟩ (Sw.dealAt m.deals t)).2]) (by simp [results, Try.results160, go_sem, *]) rfl ?_
    exact kindEnd (c := 3) ho hτ hb ext_ sz_ bx_
  · have e : Sw.effect m ⟨ru, rn, 5, t, rh, rp⟩ = Sw.settle m ⟨ru, rn, 5, t, rh, rp⟩ (Sw.dealAt m.deals t) := by unfold Sw.effect; rw [HW.out]; rfl
    rw [e]; clear e hk
    go_enter Try.func160, Try.ntmps160
    go_wp2_with fail
    apply Calls.mono
    apply (sSettle_c (m := m) (rows := rows) (τ := glue τ w.heap.size (fun _ => 0)))
    · exact hG.keepF kf_
    · exact HK.out
    · exact ht
    · exact sz_
    rintro E w1 ⟨bL, bLc, bLn, bP, bPc, bPn, bD, bDc, bDn, bN, bNc, bNn, bS, bSc, bSn, τ1, rfl, ho, hτ, hb⟩
    obtain ⟨hB0, hF0⟩ := Ch.sm_keep hb (g := w.heap.size + 1 + 1) sz_ (if_neg (by omega))
    have hz := hb.size
    (try simp only [zA, zC, zD, zN] at hz)
    go_wp2_with fail
    refine bodyPost_ret (v := .tuple #[.agg #[.slice bL bLn bLc, .slice bP bPn bPc, .slice bD bDn bDc, .int .i64 (Sw.settle m ⟨ru, rn, 5, t, rh, rp⟩ (Sw.dealAt m.deals t)).1.clock, .slice bN bNn bNc, .slice bS bSn bSc], .int .i64 (Sw.settle m ⟨ru, rn, 5, t, rh, rp⟩ (Sw.dealAt m.deals t)).2]) (by simp [results, Try.results160, go_sem, *]) rfl ?_
    exact kindEnd (c := 3) ho hτ hb ext_ sz_ bx_
  · have e : Sw.effect m ⟨ru, rn, 6, t, rh, rp⟩ = Sw.enter m ⟨ru, rn, 6, t, rh, rp⟩ (Sw.rowAt rows t) (Sw.dealAt m.deals t) := by unfold Sw.effect; rw [HW.out]; rfl
    rw [e]; clear e hk
    go_enter Try.func160, Try.ntmps160
    go_wp2_with fail
    apply Calls.mono
    apply (sEnter_c (m := m) (rows := rows) (τ := glue τ w.heap.size (fun _ => 0)))
    · exact hG.keepF kf_
    · exact HK.out
    · exact ht
    · exact u1
    · exact u5
    · exact sz_
    rintro E w1 ⟨bL, bLc, bLn, bP, bPc, bPn, bD, bDc, bDn, bN, bNc, bNn, bS, bSc, bSn, τ1, rfl, ho, hτ, hb⟩
    obtain ⟨hB0, hF0⟩ := Ch.sm_keep hb (g := w.heap.size + 1 + 1) sz_ (if_neg (by omega))
    have hz := hb.size
    (try simp only [zA, zC, zD, zN] at hz)
    go_wp2_with fail
    refine bodyPost_ret (v := .tuple #[.agg #[.slice bL bLn bLc, .slice bP bPn bPc, .slice bD bDn bDc, .int .i64 (Sw.enter m ⟨ru, rn, 6, t, rh, rp⟩ (Sw.rowAt rows t) (Sw.dealAt m.deals t)).1.clock, .slice bN bNn bNc, .slice bS bSn bSc], .int .i64 (Sw.enter m ⟨ru, rn, 6, t, rh, rp⟩ (Sw.rowAt rows t) (Sw.dealAt m.deals t)).2]) (by simp [results, Try.results160, go_sem, *]) rfl ?_
    exact kindEnd (c := 3) ho hτ hb ext_ sz_ bx_
end Go.Proofs.Ytgceeggfdomdjaa

namespace Go.Proofs.Ytgceeggfdomdjaa
set_option maxRecDepth 100000
set_option linter.unusedSimpArgs false
set_option linter.unusedVariables false
open Go.RowKit Go
set_option maxHeartbeats 2000000

/-- A request's number and answer written down in place. -/
theorem OwM.noted {aL aP aD : Option Addr} {aLc aLn aPc aPn aDc aDn aNc aNn aSc aSn : Nat} {m : Sw.Mkt} {τ : Nat → Nat} {w : World} {lo gN gS k : Nat} (h : OwM τ w lo aL aLc aLn aP aPc aPn aD aDc aDn (some ⟨gN, 0, none⟩) aNc aNn (some ⟨gS, 0, none⟩) aSc aSn m) (hn : k < m.nums.length) (hs : k < m.said.length) (a b : Int) :
    OwM τ ((w.setCell ⟨gN, k, none⟩ (.int .i64 a)).setCell ⟨gS, k, none⟩ (.int .i64 b)) lo aL aLc aLn aP aPc aPn aD aDc aDn (some ⟨gN, 0, none⟩) aNc aNn (some ⟨gS, 0, none⟩) aSc aSn { m with nums := m.nums.set k a, said := m.said.set k b } := by
  have tN : τ gN = 4 := h.nums.tag _ rfl
  have tS : τ gS = 5 := h.said.tag _ rfl
  have K : ∀ t, t ≠ 4 → t ≠ 5 → KT τ t lo w ((w.setCell ⟨gN, k, none⟩ (.int .i64 a)).setCell ⟨gS, k, none⟩ (.int .i64 b)) := fun t h4 h5 =>
    ((KT.refl _ _ _ _).setCell (.inr (by show τ gN ≠ t; rw [tN]; exact Ne.symm h4))).setCell (.inr (by show τ gS ≠ t; rw [tS]; exact Ne.symm h5))
  have hne : gS ≠ gN := by rintro rfl; rw [tN] at tS; cases tS
  refine ⟨h.log.keep (K 1 (by decide) (by decide)), h.purses.keep (K 2 (by decide) (by decide)), h.deals.keep (K 3 (by decide) (by decide)), ⟨?_, h.nums.tag⟩, ⟨?_, h.said.tag⟩⟩
  · have h1 := Ow.set h.nums.ow (fun _ => rfl) (k := k) (j := 0) (u := .int .i64 a) rfl (List.getElem?_eq_getElem hn) (by omega) (y := a) rfl
    simp only [Nat.mul_one, Nat.add_zero] at h1
    exact h1.keep_ fun x hx => by cases hx; exact Below.heap_setCell _ _ _ _ (show gN ≠ gS from Ne.symm hne)
  · have h1 : OwI (w.setCell ⟨gN, k, none⟩ (.int .i64 a)) lo (some ⟨gS, 0, none⟩) aSc aSn m.said := h.said.ow.keep_ fun x hx => by cases hx; exact Below.heap_setCell _ _ _ _ (show gS ≠ gN from hne)
    have h2 := Ow.set h1 (fun _ => rfl) (k := k) (j := 0) (u := .int .i64 b) rfl (List.getElem?_eq_getElem hs) (by omega) (y := b) rfl
    simpa only [Nat.mul_one, Nat.add_zero] using h2
theorem effect_lens {m : Sw.Mkt} {rows : List Sw.Row} {r : Sw.Req} (h : Sw.MOk m rows) (hr : Sw.reqOk r = true) : (Sw.effect m r).1.nums.length = 5 ∧ (Sw.effect m r).1.said.length = 5 := by
  have e := Sw.effect_eff h hr
  rw [e.nums, e.said]
  exact ⟨h.nlen, h.slen⟩

theorem sDo_c (aL : Option Addr) (aLc aLn : Nat) (aP : Option Addr) (aPc aPn : Nat) (aD : Option Addr) (aDc aDn : Nat) (aN : Option Addr) (aNc aNn : Nat) (aS : Option Addr) (aSc aSn : Nat) (m : Sw.Mkt) (r : Sw.Req) (rows : List Sw.Row) (lo : Nat) (τ : Nat → Nat) (w : World) (hM : OwM τ w lo aL aLc aLn aP aPc aPn aD aDc aDn aN aNc aNn aS aSc aSn m) (hok : Sw.MOk m rows) (hr : Sw.reqOk r = true) (hlo : lo ≤ w.heap.size) : Calls Try.prog 114 #[.agg #[.slice aL aLn aLc, .slice aP aPn aPc, .slice aD aDn aDc, .int .i64 m.clock, .slice aN aNn aNc, .slice aS aSn aSc], .agg #[.int .i64 r.user, .int .i64 r.n, .int .i64 r.kind, .int .i64 r.ticket, .int .i64 r.who, .int .i64 r.price]] w fun E w' => MktPost lo τ w w' E (Sw.doIt m r) := by
  have hr' := Sw.reqOk_iff.1 hr
  obtain ⟨ru, rn, rk, rt, rh, rp⟩ := r
  dsimp only at hr'
  obtain ⟨u, rfl⟩ := Int.eq_ofNat_of_zero_le (show 0 ≤ ru by omega)
  obtain ⟨⟨u1, u5⟩, -, -, -, -⟩ := hr'
  obtain ⟨v, rfl⟩ : ∃ v, u = v + 1 := ⟨u - 1, by omega⟩
  have hv : v < 5 := by omega
  have hnl : aNn = 5 := by rw [hM.nums.ow.1, hok.nlen]
  have hsl : aSn = 5 := by rw [hM.said.ow.1, hok.slen]
  subst hnl hsl
  obtain ⟨gN, x, rfl, hgN0, hgN, hx, qN, hfN⟩ := at_OI hM.nums.ow hv
  obtain ⟨gS, y, rfl, hgS0, hgS, hy, qS, hfS⟩ := at_OI hM.said.ow hv
  have e1 : Sw.lastOf m.nums ((v + 1 : Nat) : Int) = x := by unfold Sw.lastOf; rw [show (((v + 1 : Nat) : Int) - 1).toNat = v from by omega]; exact Sw.getD_of hx
  have e2 : Sw.lastOf m.said ((v + 1 : Nat) : Int) = y := by unfold Sw.lastOf; rw [show (((v + 1 : Nat) : Int) - 1).toNat = v from by omega]; exact Sw.getD_of hy
  have s1 : IntKind.i64.wrap (((v + 1 : Nat) : Int) - 1) = (v : Int) := by rw [show ((v + 1 : Nat) : Int) - 1 = (v : Int) from by omega]; exact IntWalk.i64_in _ (by omega)
  have i0 : (0 : Int) ≤ (v : Int) := by omega
  have i1 : (v : Int) < 5 := by omega
  clear hx hy
  have HR := Lib.hid hr
  have HK := Lib.hid hok
  clear hr hok
  by_cases h1 : rn = x
  · have g1 : (rn == x) = true := by simpa using h1
    have e : Sw.doIt m ⟨((v + 1 : Nat) : Int), rn, rk, rt, rh, rp⟩ = (m, y) := by unfold Sw.doIt; dsimp only; rw [e1, e2, if_pos h1]
    rw [e]
    clear e e1 e2 s1 h1
    have wv : IntKind.i64.wrap (v : Int) = (v : Int) := IntWalk.i64_in _ (by omega)
    have wv2 : IntKind.i64.wrap ((v : Int) + 1 - 1) = (v : Int) := by rw [Int.add_sub_cancel]; exact wv
    go_enter Try.func114, Try.ntmps114
    go_wp2_with fail
    (refine wp_name ?_; intro W0 hb0; have hst := xr hb0; (try simp only [zA, zC, zD, zN] at hst); obtain ⟨hc0, hf0, hz0⟩ := hst; have hLb : Lb W0 (w.heap.size + 1 + 1) 6 := Lb.ex (by exact lbc_) hb0; go_region_held3 (fun w' => HeldB (w.heap.size + 1 + 1) 6 W0 w') ((first | with_reducible assumption | with_reducible exact HeldB.start hLb | with_reducible exact HeldB.of (by assumption) (by assumption) | ((repeat (first | with_reducible refine HeldB.set ?_ (by first | exact Or.inl rfl | exact Or.inr (by simp only [zA, zC, zD, zN]; omega) | exact Or.inr (by omega)) | with_reducible refine HeldB.alloc ?_ _ | with_reducible refine HeldB.drew ?_)); (first | with_reducible assumption | with_reducible exact HeldB.refl hLb | with_reducible exact HeldB.of (by assumption) (by assumption) | with_reducible exact HeldB.ex (by assumption) (by assumption))))) (fail); all_goals (rename HeldB (w.heap.size + 1 + 1) 6 W0 _ => hHx; have hb := HeldB.ch hHx; have hst := xc hb; (try simp only [zA, zC, zD, zN] at hst); obtain ⟨hc, hf, hz⟩ := hst; have hLb3 := HeldB.lb hHx; (repeat (first | with_reducible replace hLb3 := Lb.unset hLb3 | with_reducible replace hLb3 := Lb.undrew hLb3)); obtain ⟨hcb, hfb⟩ := Lb.rules hLb3; clear hHx))
    all_goals go_wp2
    refine bodyPost_ret (v := .tuple #[(.agg #[.slice aL aLn aLc, .slice aP aPn aPc, .slice aD aDn aDc, .int .i64 m.clock, .slice (some ⟨gN, 0, none⟩) 5 aNc, .slice (some ⟨gS, 0, none⟩) 5 aSc]), .int .i64 y]) (by simp [results, Try.results114, go_sem, *]) rfl ?_
    exact ⟨_, _, _, _, _, _, _, _, _, _, _, _, _, _, _, τ, rfl, hM.keepF kf_, fun _ _ => rfl, ext_⟩
  have g1 : (rn == x) = false := by simpa using h1
  by_cases h2 : rn < x
  · have e : Sw.doIt m ⟨((v + 1 : Nat) : Int), rn, rk, rt, rh, rp⟩ = (m, 7) := by unfold Sw.doIt; dsimp only; rw [e1, if_neg h1, if_pos h2]
    rw [e]
    clear e e1 e2 s1 h1
    go_enter Try.func114, Try.ntmps114
    go_wp2_with fail
    refine bodyPost_ret (v := .tuple #[(.agg #[.slice aL aLn aLc, .slice aP aPn aPc, .slice aD aDn aDc, .int .i64 m.clock, .slice (some ⟨gN, 0, none⟩) 5 aNc, .slice (some ⟨gS, 0, none⟩) 5 aSc]), .int .i64 7]) (by simp [results, Try.results114, go_sem, *]) rfl ?_
    exact ⟨_, _, _, _, _, _, _, _, _, _, _, _, _, _, _, τ, rfl, hM.keepF kf_, fun _ _ => rfl, ext_⟩
  have hle := effect_lens HK.out HR.out
  have e : Sw.doIt m ⟨((v + 1 : Nat) : Int), rn, rk, rt, rh, rp⟩ = ((fun z : Sw.Mkt × Int => (({ z.1 with nums := z.1.nums.set v rn, said := z.1.said.set v z.2 } : Sw.Mkt), z.2)) (Sw.effect m ⟨((v + 1 : Nat) : Int), rn, rk, rt, rh, rp⟩)) := by
    unfold Sw.doIt; dsimp only; rw [e1, if_neg h1, if_neg h2]; unfold Sw.noted; dsimp only; rw [show (((v + 1 : Nat) : Int) - 1).toNat = v from by omega]
  rw [e]
  clear e e1 e2 s1 h1
  obtain ⟨z, hz0⟩ : ∃ z, z = Sw.effect m ⟨((v + 1 : Nat) : Int), rn, rk, rt, rh, rp⟩ := ⟨_, rfl⟩
  rw [← hz0] at hle ⊢
  have HZ := Lib.hid hz0
  clear hz0
  have hG := hM.glueL (τ' := fun _ => 0) (Nat.le_refl _)
  dsimp only
  go_enter Try.func114, Try.ntmps114
  go_wp2_with fail
  apply Calls.mono
  apply (sKind_c (m := m) (r := ⟨(v : Int) + 1, rn, rk, rt, rh, rp⟩) (rows := rows) (τ := glue τ w.heap.size (fun _ => 0)))
  · exact hG.keepF kf_
  · exact HK.out
  · exact HR.out
  · exact sz_
  rintro E w1 ⟨bL, bLc, bLn, bP, bPc, bPn, bD, bDc, bDn, bN, bNc, bNn, bS, bSc, bSn, τ1, rfl, ho, hτ, hb⟩
  rw [show Sw.effect m ⟨(v : Int) + 1, rn, rk, rt, rh, rp⟩ = z from HZ.out.symm] at ho ⊢
  obtain ⟨hB0, hF0⟩ := Ch.sm_keep hb (g := w.heap.size + 1 + 1) sz_ (if_neg (by omega))
  obtain ⟨hB1, hF1⟩ := Ch.sm_keep hb (g := w.heap.size + 1) sz_ (if_neg (by omega))
  have hz := hb.size
  (try simp only [zA, zC, zD, zN] at hz)
  obtain rfl : bNn = 5 := by rw [ho.nums.ow.1, hle.1]
  obtain rfl : bSn = 5 := by rw [ho.said.ow.1, hle.2]
  have hln : v < z.1.nums.length := by rw [hle.1]; exact hv
  have hls : v < z.1.said.length := by rw [hle.2]; exact hv
  clear hle
  obtain ⟨gM, xM, rfl, hgM0, hgM, hxM, cM, hfM⟩ := at_OI ho.nums.ow hv
  obtain ⟨gT, xT, rfl, hgT0, hgT, hxT, cT, hfT⟩ := at_OI ho.said.ow hv
  have tM : τ1 gM = 4 := ho.nums.tag _ rfl
  have tT : τ1 gT = 5 := ho.said.tag _ rfl
  have hMT : gM ≠ gT := by rintro rfl; rw [tM] at tT; cases tT
  have hMw : gM < w.heap.size ∨ w.heap.size + 3 ≤ gM := by
    by_cases h : gM < w.heap.size
    · exact .inl h
    · refine .inr (Nat.not_lt.1 fun h' => ?_)
      have := hτ gM (by simp only [zA]; omega)
      rw [tM, show glue τ w.heap.size (fun _ => 0) gM = 0 from if_neg h] at this
      cases this
  have hTw : gT < w.heap.size ∨ w.heap.size + 3 ≤ gT := by
    by_cases h : gT < w.heap.size
    · exact .inl h
    · refine .inr (Nat.not_lt.1 fun h' => ?_)
      have := hτ gT (by simp only [zA]; omega)
      rw [tT, show glue τ w.heap.size (fun _ => 0) gT = 0 from if_neg h] at this
      cases this
  have HX := Lib.hid (And.intro hxM hxT)
  have HT := Lib.hid (And.intro tM tT)
  clear hxM hxT tM tT
  go_wp2_with fail
  refine bodyPost_ret (v := .tuple #[.agg #[.slice bL bLn bLc, .slice bP bPn bPc, .slice bD bDn bDc, .int .i64 z.1.clock, .slice (some ⟨gM, 0, none⟩) 5 bNc, .slice (some ⟨gT, 0, none⟩) 5 bSc], .int .i64 z.2]) (by simp [results, Try.results114, go_sem, *]) rfl ?_
  have m1 := OwM.noted ho hln hls rn z.2
  have S1 : ∀ i, SM lo (glue τ w.heap.size (fun _ => 0)) i → i < w.heap.size → SM lo τ i := fun i h hi => ⟨h.1, by have := h.2; rwa [show glue τ w.heap.size (fun _ => 0) i = τ i from if_pos hi] at this⟩
  have hW : w.heap.size ≤ (((w.alloc (.cells #[.slice aL aLn aLc, .slice aP aPn aPc, .slice aD aDn aDc, .int .i64 m.clock, .slice (some ⟨gN, 0, none⟩) 5 aNc, .slice (some ⟨gS, 0, none⟩) 5 aSc] 53))).heap.size) := sz_
  have hS0 := Ch.trans' (show Ch (SM lo τ) w _ from ext_) hb (fun i hi h => S1 i h hi)
  have t0 : ∀ b, w.heap.size ≤ b → b < w.heap.size + 3 → τ1 b = 0 := fun b h1 h2 => (hτ b (by simp only [zA]; omega)).trans (if_neg (by omega))
  have hsM : SM lo τ gM ∨ w.heap.size ≤ gM := by
    rcases hMw with h | h
    · refine .inl ⟨hgM0, ?_⟩
      have := (hτ gM (by simp only [zA]; omega)).symm.trans HT.out.1
      rw [show glue τ w.heap.size (fun _ => 0) gM = τ gM from if_pos h] at this
      omega
    · exact .inr (by omega)
  have hsT : SM lo τ gT ∨ w.heap.size ≤ gT := by
    rcases hTw with h | h
    · refine .inl ⟨hgT0, ?_⟩
      have := (hτ gT (by simp only [zA]; omega)).symm.trans HT.out.2
      rw [show glue τ w.heap.size (fun _ => 0) gT = τ gT from if_pos h] at this
      omega
    · exact .inr (by omega)
  refine ⟨_, _, _, _, _, _, _, _, _, _, _, _, _, _, _, τ1, rfl, m1.box (g0 := w.heap.size) (g1 := w.heap.size + 3) bx_ t0, fun b hb => (hτ b (by simp only [zA]; omega)).trans (if_pos hb), ?_⟩
  (with_reducible repeat (first | exact cR _ _ | apply cA | apply cD | apply cN | (refine cS ?_ (Or.inr (by first | omega | (simp only [zA, zC, zD, zN]; omega))) _) | (refine cS ?_ hsM _) | (refine cS ?_ hsT _) | (apply cE; assumption) | (apply cK; assumption)))
end Go.Proofs.Ytgceeggfdomdjaa

namespace Go.Proofs.Ytgceeggfdomdjaa
set_option maxRecDepth 100000
set_option linter.unusedSimpArgs false
set_option linter.unusedVariables false
open Go.RowKit Go
set_option maxHeartbeats 8000000

section
variable {g o n lo : Nat} {τ0 τ : Nat → Nat} {w0 w : World} {aL : Option Addr} {aLc aLn : Nat} {aP : Option Addr} {aPc aPn : Nat} {aD : Option Addr} {aDc aDn : Nat} {aN : Option Addr} {aNc aNn : Nat} {aS : Option Addr} {aSc aSn : Nat} {m : Sw.Mkt}
theorem iEffect_c (hS : MS g o n lo τ0 w0 aL aLc aLn aP aPc aPn aD aDc aDn aN aNc aNn aS aSc aSn m τ w) (r : Sw.Req) {rows : List Sw.Row} (hok : Sw.MOk m rows) (hr : Sw.reqOk r = true) : Calls Try.prog 163 #[.pointer (some ⟨g, o, none⟩), .agg #[.int .i64 r.user, .int .i64 r.n, .int .i64 r.kind, .int .i64 r.ticket, .int .i64 r.who, .int .i64 r.price]] w fun E w' =>
    EffPost g o n lo τ0 w0 w' E (Sw.effect m r) := by
  have hr' := Sw.reqOk_iff.1 hr
  have hrow := (rows8 hok).1
  obtain ⟨ru, rn, rk, rt, rh, rp⟩ := r
  dsimp only at hr'
  obtain ⟨t, rfl⟩ := Int.eq_ofNat_of_zero_le (show 0 ≤ rt by omega)
  have ht : t < 8 := by omega
  obtain ⟨⟨u1, u5⟩, -, hk, -, -⟩ := hr'
  rcases (show rk = 1 ∨ rk = 2 ∨ rk = 3 ∨ rk = 4 ∨ rk = 5 ∨ rk = 6 by omega) with rfl | rfl | rfl | rfl | rfl | rfl
  · have e : Sw.effect m ⟨ru, rn, 1, t, rh, rp⟩ = Sw.issue m ⟨ru, rn, 1, t, rh, rp⟩ (Sw.rowAt rows t) := by unfold Sw.effect; rw [hrow]; rfl
    rw [e]; exact iEffect1_c hS ru rn t rh rp hok ht u1 u5
  · have e : Sw.effect m ⟨ru, rn, 2, t, rh, rp⟩ = Sw.offer m ⟨ru, rn, 2, t, rh, rp⟩ (Sw.rowAt rows t) (Sw.dealAt m.deals t) := by unfold Sw.effect; rw [hrow]; rfl
    rw [e]; exact iEffect2_c hS ru rn t rh rp hok ht u1 u5
  · have e : Sw.effect m ⟨ru, rn, 3, t, rh, rp⟩ = Sw.dropIt m ⟨ru, rn, 3, t, rh, rp⟩ (Sw.rowAt rows t) (Sw.dealAt m.deals t) := by unfold Sw.effect; rw [hrow]; rfl
    rw [e]; exact iEffect3_c hS ru rn t rh rp hok ht u1 u5
  · have e : Sw.effect m ⟨ru, rn, 4, t, rh, rp⟩ = Sw.fund m ⟨ru, rn, 4, t, rh, rp⟩ (Sw.dealAt m.deals t) := rfl
    rw [e]; exact iEffect4_c hS ru rn t rh rp hok ht u1 u5
  · have e : Sw.effect m ⟨ru, rn, 5, t, rh, rp⟩ = Sw.settle m ⟨ru, rn, 5, t, rh, rp⟩ (Sw.dealAt m.deals t) := rfl
    rw [e]; exact iEffect5_c hS ru rn t rh rp hok ht u1 u5
  · have e : Sw.effect m ⟨ru, rn, 6, t, rh, rp⟩ = Sw.enter m ⟨ru, rn, 6, t, rh, rp⟩ (Sw.rowAt rows t) (Sw.dealAt m.deals t) := by unfold Sw.effect; rw [hrow]; rfl
    rw [e]; exact iEffect6_c hS ru rn t rh rp hok ht u1 u5
end
section
variable {g o n lo k : Nat} {τ0 τ : Nat → Nat} {w0 w : World} {aL aP aD : Option Addr} {aLc aLn aPc aPn aDc aDn aNc aNn aSc aSn gN gS : Nat} {m : Sw.Mkt}
theorem MS.noted (h : MS g o n lo τ0 w0 aL aLc aLn aP aPc aPn aD aDc aDn (some ⟨gN, 0, none⟩) aNc aNn (some ⟨gS, 0, none⟩) aSc aSn m τ w) (hn : k < m.nums.length) (hs : k < m.said.length) (a b : Int) :
    MS g o n lo τ0 w0 aL aLc aLn aP aPc aPn aD aDc aDn (some ⟨gN, 0, none⟩) aNc aNn (some ⟨gS, 0, none⟩) aSc aSn { m with nums := m.nums.set k a, said := m.said.set k b } τ ((w.setCell ⟨gN, k, none⟩ (.int .i64 a)).setCell ⟨gS, k, none⟩ (.int .i64 b)) := by
  have tN := h.ow.nums.tag _ rfl
  have tS := h.ow.said.tag _ rfl
  have neN : gN ≠ g := h.ne tN (by decide)
  have neS : gS ≠ g := h.ne tS (by decide)
  have mN := h.may (h.ow.nums.ow.blk rfl).1 tN (by decide) (by decide)
  have mS := h.may (h.ow.said.ow.blk rfl).1 tS (by decide) (by decide)
  have gne : ∀ i j : Nat, (⟨gN, i, none⟩ : Addr) ≠ ⟨g, j, none⟩ := fun i j e => neN (by injection e)
  have sne : ∀ i j : Nat, (⟨gS, i, none⟩ : Addr) ≠ ⟨g, j, none⟩ := fun i j e => neS (by injection e)
  exact ⟨(h.at_.other _ neN).other _ neS, h.lb.set.set, h.ow.noted hn hs a b, h.tag, fun i hi => ((World.cell?_setCell_other _ _ _ _ (sne _ _)).trans (World.cell?_setCell_other _ _ _ _ (gne _ _))).trans (h.out i hi), cS (p := ⟨gS, k, none⟩) (cS (p := ⟨gN, k, none⟩) h.ch mN _) mS _, h.glt, h.gz, h.llo⟩
end
section
variable {g o n lo : Nat} {τ0 τ : Nat → Nat} {w0 w : World} {aL : Option Addr} {aLc aLn : Nat} {aP : Option Addr} {aPc aPn : Nat} {aD : Option Addr} {aDc aDn : Nat} {aN : Option Addr} {aNc aNn : Nat} {aS : Option Addr} {aSc aSn : Nat} {m : Sw.Mkt}
theorem iDo_c (hS : MS g o n lo τ0 w0 aL aLc aLn aP aPc aPn aD aDc aDn aN aNc aNn aS aSc aSn m τ w) (r : Sw.Req) {rows : List Sw.Row} (hok : Sw.MOk m rows) (hr : Sw.reqOk r = true) : Calls Try.prog 118 #[.pointer (some ⟨g, o, none⟩), .agg #[.int .i64 r.user, .int .i64 r.n, .int .i64 r.kind, .int .i64 r.ticket, .int .i64 r.who, .int .i64 r.price]] w fun E w' =>
    EffPost g o n lo τ0 w0 w' E (Sw.doIt m r) := by
  have hr' := Sw.reqOk_iff.1 hr
  obtain ⟨ru, rn, rk, rt, rh, rp⟩ := r
  dsimp only at hr'
  obtain ⟨u, rfl⟩ := Int.eq_ofNat_of_zero_le (show 0 ≤ ru by omega)
  obtain ⟨⟨u1, u5⟩, -, -, -, -⟩ := hr'
  obtain ⟨v, rfl⟩ : ∃ v, u = v + 1 := ⟨u - 1, by omega⟩
  have hv : v < 5 := by omega
  have hnl : aNn = 5 := by rw [hS.ow.nums.ow.1, hok.nlen]
  have hsl : aSn = 5 := by rw [hS.ow.said.ow.1, hok.slen]
  subst hnl hsl
  obtain ⟨gN, x, rfl, hgN0, hgN, hx, qN, hfN⟩ := at_OI hS.ow.nums.ow hv
  obtain ⟨gS, y, rfl, hgS0, hgS, hy, qS, hfS⟩ := at_OI hS.ow.said.ow hv
  have e1 : Sw.lastOf m.nums ((v + 1 : Nat) : Int) = x := by unfold Sw.lastOf; rw [show (((v + 1 : Nat) : Int) - 1).toNat = v from by omega]; exact Sw.getD_of hx
  have e2 : Sw.lastOf m.said ((v + 1 : Nat) : Int) = y := by unfold Sw.lastOf; rw [show (((v + 1 : Nat) : Int) - 1).toNat = v from by omega]; exact Sw.getD_of hy
  have i0 : (0 : Int) ≤ (v : Int) := by omega
  have i1 : (v : Int) < 5 := by omega
  have wv : IntKind.i64.wrap (v : Int) = (v : Int) := IntWalk.i64_in _ (by omega)
  have wv2 : IntKind.i64.wrap ((v : Int) + 1 - 1) = (v : Int) := by rw [Int.add_sub_cancel]; exact wv
  obtain ⟨k0, k1, k2, k3, k4, k5, k6, kf⟩ := hS.at_
  have HS := Lib.hid hS
  have HR := Lib.hid hr
  have HK := Lib.hid hok
  clear hr hok hx hy hS
  by_cases h1 : rn = x
  · have g1 : (rn == x) = true := by simpa using h1
    have e : Sw.doIt m ⟨((v + 1 : Nat) : Int), rn, rk, rt, rh, rp⟩ = (m, y) := by unfold Sw.doIt; dsimp only; rw [e1, e2, if_pos h1]
    rw [e]
    clear e e1 e2 h1
    go_enter Try.func118, Try.ntmps118
    go_wp2_with fail
    (go_quiet ((first | fail)); all_goals (generalize hWq : World.drewN _ nq = W0; have hb0 := Ex.ofN hWq; clear hWq; have hst := xr hb0; (try simp only [zA, zC, zD, zN] at hst); obtain ⟨hc0, hf0, hz0⟩ := hst))
    go_wp2_with fail
    (go_quiet ((first | fail)); all_goals (generalize hWq : World.drewN _ nq = W0; have hb0 := Ex.ofN hWq; clear hWq; have hst := xr hb0; (try simp only [zA, zC, zD, zN] at hst); obtain ⟨hc0, hf0, hz0⟩ := hst))
    go_wp2
    go_ret
    exact ⟨_, _, _, _, _, _, _, _, _, _, _, _, _, _, _, τ, rfl, HS.out.ex ext_⟩
  have g1 : (rn == x) = false := by simpa using h1
  by_cases h2 : rn < x
  · have e : Sw.doIt m ⟨((v + 1 : Nat) : Int), rn, rk, rt, rh, rp⟩ = (m, 7) := by unfold Sw.doIt; dsimp only; rw [e1, if_neg h1, if_pos h2]
    rw [e]
    clear e e1 e2 h1
    go_enter Try.func118, Try.ntmps118
    go_wp2_with fail
    (go_quiet ((first | fail)); all_goals (generalize hWq : World.drewN _ nq = W0; have hb0 := Ex.ofN hWq; clear hWq; have hst := xr hb0; (try simp only [zA, zC, zD, zN] at hst); obtain ⟨hc0, hf0, hz0⟩ := hst))
    go_wp2
    go_ret
    exact ⟨_, _, _, _, _, _, _, _, _, _, _, _, _, _, _, τ, rfl, HS.out.ex ext_⟩
  have hle := effect_lens HK.out HR.out
  have e : Sw.doIt m ⟨((v + 1 : Nat) : Int), rn, rk, rt, rh, rp⟩ = ((fun z : Sw.Mkt × Int => (({ z.1 with nums := z.1.nums.set v rn, said := z.1.said.set v z.2 } : Sw.Mkt), z.2)) (Sw.effect m ⟨((v + 1 : Nat) : Int), rn, rk, rt, rh, rp⟩)) := by
    unfold Sw.doIt; dsimp only; rw [e1, if_neg h1, if_neg h2]; unfold Sw.noted; dsimp only; rw [show (((v + 1 : Nat) : Int) - 1).toNat = v from by omega]
  rw [e]
  clear e e1 e2 h1
  obtain ⟨z, hz0⟩ : ∃ z, z = Sw.effect m ⟨((v + 1 : Nat) : Int), rn, rk, rt, rh, rp⟩ := ⟨_, rfl⟩
  rw [← hz0] at hle ⊢
  have HZ := Lib.hid hz0
  clear hz0
  dsimp only
  go_enter Try.func118, Try.ntmps118
  go_wp2_with fail
  (go_quiet ((first | fail)); all_goals (generalize hWq : World.drewN _ nq = W0; have hb0 := Ex.ofN hWq; clear hWq; have hst := xr hb0; (try simp only [zA, zC, zD, zN] at hst); obtain ⟨hc0, hf0, hz0⟩ := hst))
  go_wp2_with fail
  have hA := HS.out.zero (show Ex w W0 from ext_)
  apply Calls.mono
  apply (iEffect_c hA.rebase ⟨(v : Int) + 1, rn, rk, rt, rh, rp⟩ HK.out (by have := HR.out; simpa using this))
  rintro E w1 ⟨bL, bLc, bLn, bP, bPc, bPn, bD, bDc, bDn, bN, bNc, bNn, bS, bSc, bSn, τ1, rfl, hm1⟩
  rw [show Sw.effect m ⟨(v : Int) + 1, rn, rk, rt, rh, rp⟩ = z from HZ.out.symm] at hm1 ⊢
  obtain ⟨hB0, hF0⟩ := hm1.box (b := w.heap.size) (by omega) (glue0 (Nat.le_refl _)) (by omega)
  have hz1 := hm1.ch.size
  obtain rfl : bNn = 5 := by rw [hm1.ow.nums.ow.1, hle.1]
  obtain rfl : bSn = 5 := by rw [hm1.ow.said.ow.1, hle.2]
  have hln : v < z.1.nums.length := by rw [hle.1]; exact hv
  have hls : v < z.1.said.length := by rw [hle.2]; exact hv
  clear hle
  obtain ⟨gM, xM, rfl, hgM0, hgM, hxM, cM, hfM⟩ := at_OI hm1.ow.nums.ow hv
  obtain ⟨gT, xT, rfl, hgT0, hgT, hxT, cT, hfT⟩ := at_OI hm1.ow.said.ow hv
  have tM : τ1 gM = 4 := hm1.ow.nums.tag _ rfl
  have tT : τ1 gT = 5 := hm1.ow.said.tag _ rfl
  have hMT : gM ≠ gT := by rintro rfl; rw [tM] at tT; cases tT
  have hMg := hm1.ne tM (by decide)
  have hTg := hm1.ne tT (by decide)
  have hMw : ¬ gM = w.heap.size := by rintro rfl; have := hm1.tag _ (show w.heap.size < W0.heap.size by omega); rw [tM, glue0 (Nat.le_refl _)] at this; cases this
  have hTw : ¬ gT = w.heap.size := by rintro rfl; have := hm1.tag _ (show w.heap.size < W0.heap.size by omega); rw [tT, glue0 (Nat.le_refl _)] at this; cases this
  obtain ⟨j0, j1, j2, j3, j4, j5, j6, jf⟩ := hm1.at_
  have hLM := hm1.ow.nums.ow.lbA
  have hLT := hm1.ow.said.ow.lbA
  have H1 := Lib.hid hm1
  clear hm1 hxM hxT k1 k2 k3 k4 k5 k6 kf qN qS hfN hfS
  go_wp2_with fail
  (refine wp_name ?_; intro W0 hb0; have hst := xr hb0; (try simp only [zA, zC, zD, zN] at hst); obtain ⟨hc0, hf0, hz0⟩ := hst; have hLb : Lb W0 (gM) (bNc * 1) := Lb.ex (by exact lbc_) hb0; have hLc : Lb W0 (gT) (bSc * 1) := Lb.ex (by exact lbc_) hb0; go_region_held3 (fun w' => HeldC (gM) (bNc * 1) (gT) (bSc * 1) W0 w') ((first | with_reducible assumption | with_reducible exact HeldC.start hLb hLc | with_reducible exact HeldC.of (by assumption) (by assumption) (by assumption) | ((repeat (first | with_reducible refine HeldC.set ?_ (by first | exact Or.inl (Or.inl rfl) | exact Or.inl (Or.inr rfl) | exact Or.inr (by simp only [zA, zC, zD, zN]; omega) | exact Or.inr (by omega)) | with_reducible refine HeldC.alloc ?_ _ | with_reducible refine HeldC.drew ?_)); (first | with_reducible assumption | with_reducible exact HeldC.chr (by assumption) (by assumption) (Rdp.lb (by assumption)) | with_reducible exact HeldC.refl hLb hLc | with_reducible exact HeldC.of (by assumption) (by assumption) (by assumption) | with_reducible exact HeldC.ex (by assumption) (by assumption))))) (fail); all_goals (rename HeldC (gM) (bNc * 1) (gT) (bSc * 1) W0 _ => hHx; have hb := HeldC.ch hHx; have hLb3 := HeldC.lb hHx; (repeat (first | with_reducible replace hLb3 := Lb.unset hLb3 | with_reducible replace hLb3 := Lb.undrew hLb3)); obtain ⟨hcb, hfb⟩ := Lb.rules hLb3; have hLc3 := HeldC.lc hHx; (repeat (first | with_reducible replace hLc3 := Lb.unset hLc3 | with_reducible replace hLc3 := Lb.undrew hLc3)); obtain ⟨hcc, hfc⟩ := Lb.rules hLc3; clear hHx))
  all_goals go_wp2_with fail
  all_goals go_ret
  all_goals exact ⟨_, _, _, _, _, _, _, _, _, _, _, _, _, _, _, τ1, rfl, hA.trans (MS.ex (MS.noted (H1.out.ex (by assumption)) hln hls rn z.2) ext_)⟩
end
end Go.Proofs.Ytgceeggfdomdjaa

namespace Go.Proofs.Ytgceeggfdomdjaa
set_option maxRecDepth 100000
set_option linter.unusedSimpArgs false
set_option linter.unusedVariables false
open Go.RowKit Go
set_option maxHeartbeats 8000000

theorem iMktOk_c (aL : Option Addr) (aLc aLn : Nat) (aP : Option Addr) (aPc aPn : Nat) (aD : Option Addr) (aDc aDn : Nat) (aN : Option Addr) (aNc aNn : Nat) (aS : Option Addr) (aSc aSn : Nat) (m : Sw.Mkt) (w : World) (hm : RM w 0 aL aLc aLn aP aPc aPn aD aDc aDn aN aNc aNn aS aSc aSn m) : Calls Try.prog 46 #[.agg #[.slice aL aLn aLc, .slice aP aPn aPc, .slice aD aDn aDc, .int .i64 m.clock, .slice aN aNn aNc, .slice aS aSn aSc]] w fun E w' => E = .returned (.bool (Sw.mktOk m)) ∧ Ex w w' := by
  obtain ⟨m1, m2, m3, m4, m5⟩ := hm
  have hm' : RM w 0 aL aLc aLn aP aPc aPn aD aDc aDn aN aNc aNn aS aSc aSn m := ⟨m1, m2, m3, m4, m5⟩
  have b3 := Rs.big m3
  have b4 := Rs.big m4
  have b5 := Rs.big m5
  have l3 := Lib.hid m3.1
  have l4 := Lib.hid m4.1
  have l5 := Lib.hid m5.1
  have e := mktOk_parts m
  have He := Lib.hid e; clear e
  cases hfs : (Sw.ownFold m.log).isSome
  case false =>
    go_enter Try.func46, Try.ntmps46
    go_wp2_with (first | (go_at_call 57; apply Calls.mono; apply iOwnFold_c; ((first | (apply Rs.at0; assumption) | (apply Ow.rs0; assumption) | (apply OwT.rs0; assumption)); exact kf_); rintro E w1 ⟨A', c', n', rfl, hr, hb⟩; have hst := xr hb; (try simp only [zA, zC, zD, zN] at hst); obtain ⟨hc, hf, hz⟩ := hst))
    go_ret
    exact ⟨ret_b (by rw [He.out]; simp [mktGate, hfs]), ext_⟩
  cases g1 : Sw.monOk m.purses
  case false =>
    go_enter Try.func46, Try.ntmps46
    go_wp2_with (first | (go_at_call 57; apply Calls.mono; apply iOwnFold_c; ((first | (apply Rs.at0; assumption) | (apply Ow.rs0; assumption) | (apply OwT.rs0; assumption)); exact kf_); rintro E w1 ⟨A', c', n', rfl, hr, hb⟩; have hst := xr hb; (try simp only [zA, zC, zD, zN] at hst); obtain ⟨hc, hf, hz⟩ := hst) | (go_at_call 59; apply Calls.mono; apply iMonOk_c; ((first | (apply Rs.at0; assumption) | (apply Ow.rs0; assumption) | (apply OwT.rs0; assumption)); exact kf_); rintro E w1 ⟨rfl, hb⟩; have hst := xr hb; (try simp only [zA, zC, zD, zN] at hst); obtain ⟨hc, hf, hz⟩ := hst))
    go_ret
    exact ⟨ret_b (by rw [He.out]; simp [mktGate, g1]), ext_⟩
  by_cases g2 : aDn ≤ 8
  case neg =>
    go_enter Try.func46, Try.ntmps46
    go_wp2_with (first | (go_at_call 57; apply Calls.mono; apply iOwnFold_c; ((first | (apply Rs.at0; assumption) | (apply Ow.rs0; assumption) | (apply OwT.rs0; assumption)); exact kf_); rintro E w1 ⟨A', c', n', rfl, hr, hb⟩; have hst := xr hb; (try simp only [zA, zC, zD, zN] at hst); obtain ⟨hc, hf, hz⟩ := hst) | (go_at_call 59; apply Calls.mono; apply iMonOk_c; ((first | (apply Rs.at0; assumption) | (apply Ow.rs0; assumption) | (apply OwT.rs0; assumption)); exact kf_); rintro E w1 ⟨rfl, hb⟩; have hst := xr hb; (try simp only [zA, zC, zD, zN] at hst); obtain ⟨hc, hf, hz⟩ := hst))
    go_ret
    exact ⟨ret_b (by rw [He.out, mktGate, ← l3.out]; simp [g2]), ext_⟩
  cases g3 : Sw.inR m.clock 0 99999
  case false =>
    go_enter Try.func46, Try.ntmps46
    go_wp2_with (first | (go_at_call 57; apply Calls.mono; apply iOwnFold_c; ((first | (apply Rs.at0; assumption) | (apply Ow.rs0; assumption) | (apply OwT.rs0; assumption)); exact kf_); rintro E w1 ⟨A', c', n', rfl, hr, hb⟩; have hst := xr hb; (try simp only [zA, zC, zD, zN] at hst); obtain ⟨hc, hf, hz⟩ := hst) | (go_at_call 59; apply Calls.mono; apply iMonOk_c; ((first | (apply Rs.at0; assumption) | (apply Ow.rs0; assumption) | (apply OwT.rs0; assumption)); exact kf_); rintro E w1 ⟨rfl, hb⟩; have hst := xr hb; (try simp only [zA, zC, zD, zN] at hst); obtain ⟨hc, hf, hz⟩ := hst) | (go_at_call 96; refine (in_c _ _ _ _).mono ?_; rintro E w' ⟨rfl, rfl⟩))
    go_ret
    exact ⟨ret_b (by rw [He.out, mktGate, g3]; simp), ext_⟩
  by_cases g4 : aNn = 5
  case neg =>
    have q4 : ((aNn : Int) != 5) = true := by rw [bne_iff_ne]; omega
    go_enter Try.func46, Try.ntmps46
    go_wp2_with (first | (go_at_call 57; apply Calls.mono; apply iOwnFold_c; ((first | (apply Rs.at0; assumption) | (apply Ow.rs0; assumption) | (apply OwT.rs0; assumption)); exact kf_); rintro E w1 ⟨A', c', n', rfl, hr, hb⟩; have hst := xr hb; (try simp only [zA, zC, zD, zN] at hst); obtain ⟨hc, hf, hz⟩ := hst) | (go_at_call 59; apply Calls.mono; apply iMonOk_c; ((first | (apply Rs.at0; assumption) | (apply Ow.rs0; assumption) | (apply OwT.rs0; assumption)); exact kf_); rintro E w1 ⟨rfl, hb⟩; have hst := xr hb; (try simp only [zA, zC, zD, zN] at hst); obtain ⟨hc, hf, hz⟩ := hst) | (go_at_call 96; refine (in_c _ _ _ _).mono ?_; rintro E w' ⟨rfl, rfl⟩))
    go_ret
    exact ⟨ret_b (by rw [He.out, mktGate, ← l4.out]; simp [g4]), ext_⟩
  subst g4
  by_cases g5 : aSn = 5
  case neg =>
    have q5 : ((aSn : Int) != 5) = true := by rw [bne_iff_ne]; omega
    go_enter Try.func46, Try.ntmps46
    go_wp2_with (first | (go_at_call 57; apply Calls.mono; apply iOwnFold_c; ((first | (apply Rs.at0; assumption) | (apply Ow.rs0; assumption) | (apply OwT.rs0; assumption)); exact kf_); rintro E w1 ⟨A', c', n', rfl, hr, hb⟩; have hst := xr hb; (try simp only [zA, zC, zD, zN] at hst); obtain ⟨hc, hf, hz⟩ := hst) | (go_at_call 59; apply Calls.mono; apply iMonOk_c; ((first | (apply Rs.at0; assumption) | (apply Ow.rs0; assumption) | (apply OwT.rs0; assumption)); exact kf_); rintro E w1 ⟨rfl, hb⟩; have hst := xr hb; (try simp only [zA, zC, zD, zN] at hst); obtain ⟨hc, hf, hz⟩ := hst) | (go_at_call 96; refine (in_c _ _ _ _).mono ?_; rintro E w' ⟨rfl, rfl⟩))
    go_ret
    exact ⟨ret_b (by rw [He.out, mktGate, ← l5.out]; simp [g5]), ext_⟩
  subst g5
  have hgate : mktGate m = true := by simp [mktGate, hfs, g1, g3, ← l3.out, ← l4.out, ← l5.out, g2]
  obtain ⟨rows, hrows⟩ := Option.isSome_iff_exists.1 hfs
  have hro := Sw.ownFold_ok hrows
  have h8 := Sw.ownOk_len hro
  have hg : (Sw.ownFold m.log).getD [] = rows := by rw [hrows]; rfl
  have e2 := He.out
  rw [hgate, Sw.mktRows_of hrows, Bool.true_and] at e2
  have HE := Lib.hid e2
  have HG := Lib.hid hg
  have H8 := Lib.hid h8
  have HR := Lib.hid hrows
  have HO := Lib.hid hro
  obtain ⟨ck0, ck1⟩ := Sw.inR_iff.1 g3
  clear e2 hg h8 He hgate hrows hro
  go_enter Try.func46, Try.ntmps46
  go_wp2_with (first | (go_at_call 57; apply Calls.mono; apply iOwnFold_c; ((first | (apply Rs.at0; assumption) | (apply Ow.rs0; assumption) | (apply OwT.rs0; assumption)); exact kf_); rintro E w1 ⟨A1, c1, n1, rfl, ho1, hb⟩; rw [HG.out] at ho1; have hst := xr hb; (try simp only [zA, zC, zD] at hst); obtain ⟨hc, hf, hz⟩ := hst; obtain rfl : n1 = 8 := by rw [ho1.1, H8.out]) | (go_at_call 59; apply Calls.mono; apply iMonOk_c; ((first | (apply Rs.at0; assumption) | (apply Ow.rs0; assumption) | (apply OwT.rs0; assumption)); exact kf_); rintro E w2 ⟨rfl, hb⟩; have hst := xr hb; (try simp only [zA, zC, zD, zN] at hst); obtain ⟨hc, hf, hz⟩ := hst) | (go_at_call 96; refine (in_c _ _ _ _).mono ?_; rintro E w' ⟨rfl, rfl⟩))
  have hrr := Ow.rs0 ho1 (w := w2) (by (exact kf_))
  go_loopw [50, 63] (fun i s wr => ∃ (k : Nat) (p : Int), k ≤ aDn ∧ i = .int .i64 k ∧ (k = 0 ∧ s = .tuple #[] ∨ k = 1 ∧ s = .bool false ∨ 2 ≤ k ∧ s = .bool true) ∧ Ex w2 wr ∧ LastAt m.deals k p ∧ Sw.dealsOk m.clock rows (-1) m.deals = Sw.dealsOk m.clock rows p (m.deals.drop k)) (fun i _ _ => aDn - (intOf i).toNat)
  case atStart => exact ⟨0, -1, Nat.zero_le _, rfl, .inl ⟨rfl, rfl⟩, Ch.refl _ _, .inl ⟨rfl, rfl⟩, rfl⟩
  case round =>
    obtain ⟨k, p, hk, rfl, hs, hb2, hp, hrel⟩ := hrel
    have hst := xr hb2
    obtain ⟨hc2, hf2, hz2⟩ := hst
    by_cases hlt : k < aDn
    · obtain ⟨g, off, y, rfl, hg0, hg, hd, hy, q0, q1, q2, q3, q4⟩ := at_D m3 hlt
      rw [hd, dealsOk_cons] at hrel
      have Hrel := Lib.hid hrel
      have Hy := Lib.hid hy
      clear hd hy hrel
      rcases hp with ⟨rfl, rfl⟩ | ⟨j, yj, rfl, hj, rfl, hj0⟩
      · rcases hs with ⟨hz, rfl⟩ | ⟨h, _⟩ | ⟨h, _⟩
        case inr.inl => omega
        case inr.inr => omega
        clear hz
        simp only [Nat.zero_mul, Nat.add_zero] at q0 q1 q2 q3 q4
        cases c1 : Sw.dealOk m.clock rows y
        case false =>
          go_wp2_with fail
          (refine wp_name ?_; intro W0 hb0; have hst := xr hb0; (try simp only [zA, zC, zD, zN] at hst); obtain ⟨hc0, hf0, hz0⟩ := hst; refine wp_region_held_drew (S := fun w' => Held W0 w') (by kernel_rfl) ?_ (fun hHeld => ?_); (focus ((try dsimp only); (first | with_reducible assumption | with_reducible exact Held.start _ | with_reducible exact Held.of (by assumption) | with_reducible exact Held.ex (by assumption) (by assumption) | ((repeat (first | with_reducible refine Held.set ?_ (by simp only [zA, zC, zD, zN]; omega) | with_reducible refine Held.alloc ?_ _ | with_reducible refine Held.drew ?_)); (first | with_reducible assumption | with_reducible exact Held.refl _ | with_reducible exact Held.of (by assumption) | with_reducible exact Held.ex (by assumption) (by assumption))) | exact Held.of (by exact ext_)))); refine regT 0 55 (v := ?_) rfl rfl (by kernel_rfl) (by kernel_rfl) (by kernel_rfl) (fun _ _ _ h => h) (by rfl) ?_ (by assumption) ?_; rotate_left; (focus (intro w hSw; (try dsimp only at hSw); go_simp; (try with_reducible rfl))); (try simp only [Act.put, List.setIfInBounds_toArray, List.set_cons_zero, List.set_cons_succ]); refine regT 1 56 (v := ?_) rfl rfl (by kernel_rfl) (by kernel_rfl) (by kernel_rfl) (fun _ _ _ h => h) (by rfl) ?_ (by assumption) ?_; rotate_left; (focus (intro w hSw; (try dsimp only at hSw); go_simp; (try with_reducible rfl))); (try simp only [Act.put, List.setIfInBounds_toArray, List.set_cons_zero, List.set_cons_succ]); refine regT 2 57 (v := ?_) rfl rfl (by kernel_rfl) (by kernel_rfl) (by kernel_rfl) (fun _ _ _ h => h) (by rfl) ?_ (by assumption) ?_; rotate_left; (focus (intro w hSw; (try dsimp only at hSw); go_simp; (try with_reducible rfl))); (try simp only [Act.put, List.setIfInBounds_toArray, List.set_cons_zero, List.set_cons_succ]); refine wpAnyH_ready (rs := [3]) (by kernel_rfl) (by simp) ?_; refine AllReadyH.cons rfl (fun K hK => ?_) ?_; rotate_left; (focus exact AllReadyH.nil); go_simp; (go_at_call 110; apply Calls.mono; apply iDealOk_c; ((first | (apply Rs.at0; assumption) | (apply Ow.rs0; assumption) | (apply OwT.rs0; assumption)); exact kf_); (first | assumption | omega); (first | assumption | omega); rintro E w1 ⟨rfl, hb⟩; have hst := xr hb; (try simp only [zA, zC, zD, zN] at hst); obtain ⟨hc, hf, hz⟩ := hst); (try go_wp2_with fail); refine hK.out _ _ ?_ (fun hHeld => ?_); (focus ((try dsimp only); (first | with_reducible assumption | with_reducible exact Held.start _ | with_reducible exact Held.of (by assumption) | with_reducible exact Held.ex (by assumption) (by assumption) | ((repeat (first | with_reducible refine Held.set ?_ (by simp only [zA, zC, zD, zN]; omega) | with_reducible refine Held.alloc ?_ _ | with_reducible refine Held.drew ?_)); (first | with_reducible assumption | with_reducible exact Held.refl _ | with_reducible exact Held.of (by assumption) | with_reducible exact Held.ex (by assumption) (by assumption))) | exact Held.of (by exact ext_)))); clear hK K; (try simp only [Act.put, List.setIfInBounds_toArray, List.set_cons_zero, List.set_cons_succ]); refine regT 4 59 (v := ?_) rfl rfl (by kernel_rfl) (by kernel_rfl) (by kernel_rfl) (fun _ _ _ h => h) (by rfl) ?_ (by assumption) ?_; rotate_left; (focus (intro w hSw; (try dsimp only at hSw); go_simp; (try with_reducible rfl))); (try simp only [Act.put, List.setIfInBounds_toArray, List.set_cons_zero, List.set_cons_succ]); refine regT 5 60 (v := ?_) rfl rfl (by kernel_rfl) (by kernel_rfl) (by kernel_rfl) (fun _ _ _ h => h) (by rfl) ?_ (by assumption) ?_; rotate_left; (focus (intro w hSw; (try dsimp only at hSw); go_simp; (try with_reducible rfl))); (try simp only [Act.put, List.setIfInBounds_toArray, List.set_cons_zero, List.set_cons_succ]); refine regU 6 61 rfl rfl (by kernel_rfl) (by kernel_rfl) (by kernel_rfl) (fun _ _ _ h => h) (by rfl) (by assumption) ?_; (try simp only [Act.put, List.setIfInBounds_toArray, List.set_cons_zero, List.set_cons_succ]); refine regU 7 62 rfl rfl (by kernel_rfl) (by kernel_rfl) (by kernel_rfl) (fun _ _ _ h => h) (by rfl) (by assumption) ?_; (try simp only [Act.put, List.setIfInBounds_toArray, List.set_cons_zero, List.set_cons_succ]); refine regU 8 63 rfl rfl (by kernel_rfl) (by kernel_rfl) (by kernel_rfl) (fun _ _ _ h => h) (by rfl) (by assumption) ?_; (try simp only [Act.put, List.setIfInBounds_toArray, List.set_cons_zero, List.set_cons_succ]); refine regU 9 64 rfl rfl (by kernel_rfl) (by kernel_rfl) (by kernel_rfl) (fun _ _ _ h => h) (by rfl) (by assumption) ?_; (try simp only [Act.put, List.setIfInBounds_toArray, List.set_cons_zero, List.set_cons_succ]); refine regU 10 65 rfl rfl (by kernel_rfl) (by kernel_rfl) (by kernel_rfl) (fun _ _ _ h => h) (by rfl) (by assumption) ?_; (try simp only [Act.put, List.setIfInBounds_toArray, List.set_cons_zero, List.set_cons_succ]); refine regU 11 66 rfl rfl (by kernel_rfl) (by kernel_rfl) (by kernel_rfl) (fun _ _ _ h => h) (by rfl) (by assumption) ?_; (try simp only [Act.put, List.setIfInBounds_toArray, List.set_cons_zero, List.set_cons_succ]); refine regU 12 67 rfl rfl (by kernel_rfl) (by kernel_rfl) (by kernel_rfl) (fun _ _ _ h => h) (by rfl) (by assumption) ?_; (try simp only [Act.put, List.setIfInBounds_toArray, List.set_cons_zero, List.set_cons_succ]); refine regU 13 68 rfl rfl (by kernel_rfl) (by kernel_rfl) (by kernel_rfl) (fun _ _ _ h => h) (by rfl) (by assumption) ?_; (try simp only [Act.put, List.setIfInBounds_toArray, List.set_cons_zero, List.set_cons_succ]); refine regU 14 69 rfl rfl (by kernel_rfl) (by kernel_rfl) (by kernel_rfl) (fun _ _ _ h => h) (by rfl) (by assumption) ?_; (try simp only [Act.put, List.setIfInBounds_toArray, List.set_cons_zero, List.set_cons_succ]); refine regU 15 70 rfl rfl (by kernel_rfl) (by kernel_rfl) (by kernel_rfl) (fun _ _ _ h => h) (by rfl) (by assumption) ?_; (try simp only [Act.put, List.setIfInBounds_toArray, List.set_cons_zero, List.set_cons_succ]); refine regU 16 71 rfl rfl (by kernel_rfl) (by kernel_rfl) (by kernel_rfl) (fun _ _ _ h => h) (by rfl) (by assumption) ?_; (try simp only [Act.put, List.setIfInBounds_toArray, List.set_cons_zero, List.set_cons_succ]); refine regU 17 72 rfl rfl (by kernel_rfl) (by kernel_rfl) (by kernel_rfl) (fun _ _ _ h => h) (by rfl) (by assumption) ?_; (try simp only [Act.put, List.setIfInBounds_toArray, List.set_cons_zero, List.set_cons_succ]); refine regU 18 73 rfl rfl (by kernel_rfl) (by kernel_rfl) (by kernel_rfl) (fun _ _ _ h => h) (by rfl) (by assumption) ?_; (try simp only [Act.put, List.setIfInBounds_toArray, List.set_cons_zero, List.set_cons_succ]); refine regU 19 74 rfl rfl (by kernel_rfl) (by kernel_rfl) (by kernel_rfl) (fun _ _ _ h => h) (by rfl) (by assumption) ?_; (try simp only [Act.put, List.setIfInBounds_toArray, List.set_cons_zero, List.set_cons_succ]); refine regT 20 75 (v := ?_) rfl rfl (by kernel_rfl) (by kernel_rfl) (by kernel_rfl) (fun _ _ _ h => h) (by rfl) ?_ (by assumption) ?_; rotate_left; (focus (intro w hSw; (try dsimp only at hSw); go_simp; (try with_reducible rfl))); (try simp only [Act.put, List.setIfInBounds_toArray, List.set_cons_zero, List.set_cons_succ]); refine wpAnyH_done (by kernel_rfl) ?_ _; all_goals (have hb := And.right (by assumption : Held W0 _); have hst := xr hb; (try simp only [zA, zC, zD, zN] at hst); obtain ⟨hc, hf, hz⟩ := hst))
          all_goals go_wp2
          go_ret
          exact ⟨ret_b (by rw [HE.out, Hrel.out, c1]; simp), ext_⟩
        case true =>
          have yt0 : 0 ≤ y.ticket := (Sw.dealOk_iff.1 c1).1.1
          have Lst : LastAt m.deals (0 + 1) y.ticket := .inr ⟨0, _, rfl, Hy.out, rfl, yt0⟩
          have Lst := Lib.hid Lst
          have Yt := Lib.hid yt0; clear yt0
          go_wp2_with fail
          (refine wp_name ?_; intro W0 hb0; have hst := xr hb0; (try simp only [zA, zC, zD, zN] at hst); obtain ⟨hc0, hf0, hz0⟩ := hst; refine wp_region_held_drew (S := fun w' => Held W0 w') (by kernel_rfl) ?_ (fun hHeld => ?_); (focus ((try dsimp only); (first | with_reducible assumption | with_reducible exact Held.start _ | with_reducible exact Held.of (by assumption) | with_reducible exact Held.ex (by assumption) (by assumption) | ((repeat (first | with_reducible refine Held.set ?_ (by simp only [zA, zC, zD, zN]; omega) | with_reducible refine Held.alloc ?_ _ | with_reducible refine Held.drew ?_)); (first | with_reducible assumption | with_reducible exact Held.refl _ | with_reducible exact Held.of (by assumption) | with_reducible exact Held.ex (by assumption) (by assumption))) | exact Held.of (by exact ext_)))); refine regT 0 55 (v := ?_) rfl rfl (by kernel_rfl) (by kernel_rfl) (by kernel_rfl) (fun _ _ _ h => h) (by rfl) ?_ (by assumption) ?_; rotate_left; (focus (intro w hSw; (try dsimp only at hSw); go_simp; (try with_reducible rfl))); (try simp only [Act.put, List.setIfInBounds_toArray, List.set_cons_zero, List.set_cons_succ]); refine regT 1 56 (v := ?_) rfl rfl (by kernel_rfl) (by kernel_rfl) (by kernel_rfl) (fun _ _ _ h => h) (by rfl) ?_ (by assumption) ?_; rotate_left; (focus (intro w hSw; (try dsimp only at hSw); go_simp; (try with_reducible rfl))); (try simp only [Act.put, List.setIfInBounds_toArray, List.set_cons_zero, List.set_cons_succ]); refine regT 2 57 (v := ?_) rfl rfl (by kernel_rfl) (by kernel_rfl) (by kernel_rfl) (fun _ _ _ h => h) (by rfl) ?_ (by assumption) ?_; rotate_left; (focus (intro w hSw; (try dsimp only at hSw); go_simp; (try with_reducible rfl))); (try simp only [Act.put, List.setIfInBounds_toArray, List.set_cons_zero, List.set_cons_succ]); refine wpAnyH_ready (rs := [3]) (by kernel_rfl) (by simp) ?_; refine AllReadyH.cons rfl (fun K hK => ?_) ?_; rotate_left; (focus exact AllReadyH.nil); go_simp; (go_at_call 110; apply Calls.mono; apply iDealOk_c; ((first | (apply Rs.at0; assumption) | (apply Ow.rs0; assumption) | (apply OwT.rs0; assumption)); exact kf_); (first | assumption | omega); (first | assumption | omega); rintro E w1 ⟨rfl, hb⟩; have hst := xr hb; (try simp only [zA, zC, zD, zN] at hst); obtain ⟨hc, hf, hz⟩ := hst); (try go_wp2_with fail); refine hK.out _ _ ?_ (fun hHeld => ?_); (focus ((try dsimp only); (first | with_reducible assumption | with_reducible exact Held.start _ | with_reducible exact Held.of (by assumption) | with_reducible exact Held.ex (by assumption) (by assumption) | ((repeat (first | with_reducible refine Held.set ?_ (by simp only [zA, zC, zD, zN]; omega) | with_reducible refine Held.alloc ?_ _ | with_reducible refine Held.drew ?_)); (first | with_reducible assumption | with_reducible exact Held.refl _ | with_reducible exact Held.of (by assumption) | with_reducible exact Held.ex (by assumption) (by assumption))) | exact Held.of (by exact ext_)))); clear hK K; (try simp only [Act.put, List.setIfInBounds_toArray, List.set_cons_zero, List.set_cons_succ]); refine regT 4 59 (v := ?_) rfl rfl (by kernel_rfl) (by kernel_rfl) (by kernel_rfl) (fun _ _ _ h => h) (by rfl) ?_ (by assumption) ?_; rotate_left; (focus (intro w hSw; (try dsimp only at hSw); go_simp; (try with_reducible rfl))); (try simp only [Act.put, List.setIfInBounds_toArray, List.set_cons_zero, List.set_cons_succ]); refine regT 5 60 (v := ?_) rfl rfl (by kernel_rfl) (by kernel_rfl) (by kernel_rfl) (fun _ _ _ h => h) (by rfl) ?_ (by assumption) ?_; rotate_left; (focus (intro w hSw; (try dsimp only at hSw); go_simp; (try with_reducible rfl))); (try simp only [Act.put, List.setIfInBounds_toArray, List.set_cons_zero, List.set_cons_succ]); refine regT 6 61 (v := ?_) rfl rfl (by kernel_rfl) (by kernel_rfl) (by kernel_rfl) (fun _ _ _ h => h) (by rfl) ?_ (by assumption) ?_; rotate_left; (focus (intro w hSw; (try dsimp only at hSw); go_simp; (try with_reducible rfl))); (try simp only [Act.put, List.setIfInBounds_toArray, List.set_cons_zero, List.set_cons_succ]); refine regT 7 62 (v := ?_) rfl rfl (by kernel_rfl) (by kernel_rfl) (by kernel_rfl) (fun _ _ _ h => h) (by rfl) ?_ (by assumption) ?_; rotate_left; (focus (intro w hSw; (try dsimp only at hSw); go_simp; (try with_reducible rfl))); (try simp only [Act.put, List.setIfInBounds_toArray, List.set_cons_zero, List.set_cons_succ]); refine regT 8 63 (v := ?_) rfl rfl (by kernel_rfl) (by kernel_rfl) (by kernel_rfl) (fun _ _ _ h => h) (by rfl) ?_ (by assumption) ?_; rotate_left; (focus (intro w hSw; (try dsimp only at hSw); go_simp; (try with_reducible rfl))); (try simp only [Act.put, List.setIfInBounds_toArray, List.set_cons_zero, List.set_cons_succ]); refine regU 9 64 rfl rfl (by kernel_rfl) (by kernel_rfl) (by kernel_rfl) (fun _ _ _ h => h) (by rfl) (by assumption) ?_; (try simp only [Act.put, List.setIfInBounds_toArray, List.set_cons_zero, List.set_cons_succ]); refine regU 10 65 rfl rfl (by kernel_rfl) (by kernel_rfl) (by kernel_rfl) (fun _ _ _ h => h) (by rfl) (by assumption) ?_; (try simp only [Act.put, List.setIfInBounds_toArray, List.set_cons_zero, List.set_cons_succ]); refine regU 11 66 rfl rfl (by kernel_rfl) (by kernel_rfl) (by kernel_rfl) (fun _ _ _ h => h) (by rfl) (by assumption) ?_; (try simp only [Act.put, List.setIfInBounds_toArray, List.set_cons_zero, List.set_cons_succ]); refine regU 12 67 rfl rfl (by kernel_rfl) (by kernel_rfl) (by kernel_rfl) (fun _ _ _ h => h) (by rfl) (by assumption) ?_; (try simp only [Act.put, List.setIfInBounds_toArray, List.set_cons_zero, List.set_cons_succ]); refine regU 13 68 rfl rfl (by kernel_rfl) (by kernel_rfl) (by kernel_rfl) (fun _ _ _ h => h) (by rfl) (by assumption) ?_; (try simp only [Act.put, List.setIfInBounds_toArray, List.set_cons_zero, List.set_cons_succ]); refine regU 14 69 rfl rfl (by kernel_rfl) (by kernel_rfl) (by kernel_rfl) (fun _ _ _ h => h) (by rfl) (by assumption) ?_; (try simp only [Act.put, List.setIfInBounds_toArray, List.set_cons_zero, List.set_cons_succ]); refine regU 15 70 rfl rfl (by kernel_rfl) (by kernel_rfl) (by kernel_rfl) (fun _ _ _ h => h) (by rfl) (by assumption) ?_; (try simp only [Act.put, List.setIfInBounds_toArray, List.set_cons_zero, List.set_cons_succ]); refine regU 16 71 rfl rfl (by kernel_rfl) (by kernel_rfl) (by kernel_rfl) (fun _ _ _ h => h) (by rfl) (by assumption) ?_; (try simp only [Act.put, List.setIfInBounds_toArray, List.set_cons_zero, List.set_cons_succ]); refine regU 17 72 rfl rfl (by kernel_rfl) (by kernel_rfl) (by kernel_rfl) (fun _ _ _ h => h) (by rfl) (by assumption) ?_; (try simp only [Act.put, List.setIfInBounds_toArray, List.set_cons_zero, List.set_cons_succ]); refine regU 18 73 rfl rfl (by kernel_rfl) (by kernel_rfl) (by kernel_rfl) (fun _ _ _ h => h) (by rfl) (by assumption) ?_; (try simp only [Act.put, List.setIfInBounds_toArray, List.set_cons_zero, List.set_cons_succ]); refine regT 19 74 (v := ?_) rfl rfl (by kernel_rfl) (by kernel_rfl) (by kernel_rfl) (fun _ _ _ h => h) (by rfl) ?_ (by assumption) ?_; rotate_left; (focus (intro w hSw; (try dsimp only at hSw); go_simp; (try with_reducible rfl))); (try simp only [Act.put, List.setIfInBounds_toArray, List.set_cons_zero, List.set_cons_succ]); refine regT 20 75 (v := ?_) rfl rfl (by kernel_rfl) (by kernel_rfl) (by kernel_rfl) (fun _ _ _ h => h) (by rfl) ?_ (by assumption) ?_; rotate_left; (focus (intro w hSw; (try dsimp only at hSw); go_simp; (try with_reducible rfl))); (try simp only [Act.put, List.setIfInBounds_toArray, List.set_cons_zero, List.set_cons_succ]); refine wpAnyH_done (by kernel_rfl) ?_ _; all_goals (have hb := And.right (by assumption : Held W0 _); have hst := xr hb; (try simp only [zA, zC, zD, zN] at hst); obtain ⟨hc, hf, hz⟩ := hst))
          all_goals go_wp2
          go_roundw
          case rel => exact ⟨0 + 1, y.ticket, by omega, by go_num, .inr (.inl ⟨rfl, by first | rfl | simp⟩), ext_, Lst.out, by have := Yt.out; rw [Hrel.out, c1]; simp; omega⟩
          case measure => simp [intOf]; omega
      · obtain ⟨g', off', yj', hA', _, _, _, hyj', p0, _⟩ := at_D m3 (show j < aDn by omega)
        cases hA'
        obtain rfl : yj' = yj := by rw [hj] at hyj'; exact (Option.some.inj hyj').symm
        clear hj hyj'
        have t1 : ((j : Int) + 1).toNat = j + 1 := by omega
        have t2 : IntKind.i64.wrap ((j : Int) + 1 - 1) = j := by rw [IntWalk.i64_in _ (by omega)]; omega
        have t2' : IntKind.i64.wrap (j : Int) = j := IntWalk.i64_in _ (by omega)
        have t3 : (0 : Int) ≤ (j : Int) + 1 := by omega
        have t4 : (j : Int) + 1 < (aDn : Int) := by omega
        have t5 : (j : Int) < (aDn : Int) := by omega
        have t6 : (0 : Int) < (j : Int) + 1 := by omega
        cases c1 : Sw.dealOk m.clock rows y
        case false =>
          rcases hs with ⟨h, _⟩ | ⟨hz, rfl⟩ | ⟨hz, rfl⟩
          case inl => omega
          all_goals
            clear hz
            go_wp2_with fail
            (refine wp_name ?_; intro W0 hb0; have hst := xr hb0; (try simp only [zA, zC, zD, zN] at hst); obtain ⟨hc0, hf0, hz0⟩ := hst; refine wp_region_held_drew (S := fun w' => Held W0 w') (by kernel_rfl) ?_ (fun hHeld => ?_); (focus ((try dsimp only); (first | with_reducible assumption | with_reducible exact Held.start _ | with_reducible exact Held.of (by assumption) | with_reducible exact Held.ex (by assumption) (by assumption) | ((repeat (first | with_reducible refine Held.set ?_ (by simp only [zA, zC, zD, zN]; omega) | with_reducible refine Held.alloc ?_ _ | with_reducible refine Held.drew ?_)); (first | with_reducible assumption | with_reducible exact Held.refl _ | with_reducible exact Held.of (by assumption) | with_reducible exact Held.ex (by assumption) (by assumption))) | exact Held.of (by exact ext_)))); refine regT 0 55 (v := ?_) rfl rfl (by kernel_rfl) (by kernel_rfl) (by kernel_rfl) (fun _ _ _ h => h) (by rfl) ?_ (by assumption) ?_; rotate_left; (focus (intro w hSw; (try dsimp only at hSw); go_simp; (try with_reducible rfl))); (try simp only [Act.put, List.setIfInBounds_toArray, List.set_cons_zero, List.set_cons_succ]); refine regT 1 56 (v := ?_) rfl rfl (by kernel_rfl) (by kernel_rfl) (by kernel_rfl) (fun _ _ _ h => h) (by rfl) ?_ (by assumption) ?_; rotate_left; (focus (intro w hSw; (try dsimp only at hSw); go_simp; (try with_reducible rfl))); (try simp only [Act.put, List.setIfInBounds_toArray, List.set_cons_zero, List.set_cons_succ]); refine regT 2 57 (v := ?_) rfl rfl (by kernel_rfl) (by kernel_rfl) (by kernel_rfl) (fun _ _ _ h => h) (by rfl) ?_ (by assumption) ?_; rotate_left; (focus (intro w hSw; (try dsimp only at hSw); go_simp; (try with_reducible rfl))); (try simp only [Act.put, List.setIfInBounds_toArray, List.set_cons_zero, List.set_cons_succ]); refine wpAnyH_ready (rs := [3]) (by kernel_rfl) (by simp) ?_; refine AllReadyH.cons rfl (fun K hK => ?_) ?_; rotate_left; (focus exact AllReadyH.nil); go_simp; (go_at_call 110; apply Calls.mono; apply iDealOk_c; ((first | (apply Rs.at0; assumption) | (apply Ow.rs0; assumption) | (apply OwT.rs0; assumption)); exact kf_); (first | assumption | omega); (first | assumption | omega); rintro E w1 ⟨rfl, hb⟩; have hst := xr hb; (try simp only [zA, zC, zD, zN] at hst); obtain ⟨hc, hf, hz⟩ := hst); (try go_wp2_with fail); refine hK.out _ _ ?_ (fun hHeld => ?_); (focus ((try dsimp only); (first | with_reducible assumption | with_reducible exact Held.start _ | with_reducible exact Held.of (by assumption) | with_reducible exact Held.ex (by assumption) (by assumption) | ((repeat (first | with_reducible refine Held.set ?_ (by simp only [zA, zC, zD, zN]; omega) | with_reducible refine Held.alloc ?_ _ | with_reducible refine Held.drew ?_)); (first | with_reducible assumption | with_reducible exact Held.refl _ | with_reducible exact Held.of (by assumption) | with_reducible exact Held.ex (by assumption) (by assumption))) | exact Held.of (by exact ext_)))); clear hK K; (try simp only [Act.put, List.setIfInBounds_toArray, List.set_cons_zero, List.set_cons_succ]); refine regT 4 59 (v := ?_) rfl rfl (by kernel_rfl) (by kernel_rfl) (by kernel_rfl) (fun _ _ _ h => h) (by rfl) ?_ (by assumption) ?_; rotate_left; (focus (intro w hSw; (try dsimp only at hSw); go_simp; (try with_reducible rfl))); (try simp only [Act.put, List.setIfInBounds_toArray, List.set_cons_zero, List.set_cons_succ]); refine regT 5 60 (v := ?_) rfl rfl (by kernel_rfl) (by kernel_rfl) (by kernel_rfl) (fun _ _ _ h => h) (by rfl) ?_ (by assumption) ?_; rotate_left; (focus (intro w hSw; (try dsimp only at hSw); go_simp; (try with_reducible rfl))); (try simp only [Act.put, List.setIfInBounds_toArray, List.set_cons_zero, List.set_cons_succ]); refine regU 6 61 rfl rfl (by kernel_rfl) (by kernel_rfl) (by kernel_rfl) (fun _ _ _ h => h) (by rfl) (by assumption) ?_; (try simp only [Act.put, List.setIfInBounds_toArray, List.set_cons_zero, List.set_cons_succ]); refine regU 7 62 rfl rfl (by kernel_rfl) (by kernel_rfl) (by kernel_rfl) (fun _ _ _ h => h) (by rfl) (by assumption) ?_; (try simp only [Act.put, List.setIfInBounds_toArray, List.set_cons_zero, List.set_cons_succ]); refine regU 8 63 rfl rfl (by kernel_rfl) (by kernel_rfl) (by kernel_rfl) (fun _ _ _ h => h) (by rfl) (by assumption) ?_; (try simp only [Act.put, List.setIfInBounds_toArray, List.set_cons_zero, List.set_cons_succ]); refine regU 9 64 rfl rfl (by kernel_rfl) (by kernel_rfl) (by kernel_rfl) (fun _ _ _ h => h) (by rfl) (by assumption) ?_; (try simp only [Act.put, List.setIfInBounds_toArray, List.set_cons_zero, List.set_cons_succ]); refine regU 10 65 rfl rfl (by kernel_rfl) (by kernel_rfl) (by kernel_rfl) (fun _ _ _ h => h) (by rfl) (by assumption) ?_; (try simp only [Act.put, List.setIfInBounds_toArray, List.set_cons_zero, List.set_cons_succ]); refine regU 11 66 rfl rfl (by kernel_rfl) (by kernel_rfl) (by kernel_rfl) (fun _ _ _ h => h) (by rfl) (by assumption) ?_; (try simp only [Act.put, List.setIfInBounds_toArray, List.set_cons_zero, List.set_cons_succ]); refine regU 12 67 rfl rfl (by kernel_rfl) (by kernel_rfl) (by kernel_rfl) (fun _ _ _ h => h) (by rfl) (by assumption) ?_; (try simp only [Act.put, List.setIfInBounds_toArray, List.set_cons_zero, List.set_cons_succ]); refine regU 13 68 rfl rfl (by kernel_rfl) (by kernel_rfl) (by kernel_rfl) (fun _ _ _ h => h) (by rfl) (by assumption) ?_; (try simp only [Act.put, List.setIfInBounds_toArray, List.set_cons_zero, List.set_cons_succ]); refine regU 14 69 rfl rfl (by kernel_rfl) (by kernel_rfl) (by kernel_rfl) (fun _ _ _ h => h) (by rfl) (by assumption) ?_; (try simp only [Act.put, List.setIfInBounds_toArray, List.set_cons_zero, List.set_cons_succ]); refine regU 15 70 rfl rfl (by kernel_rfl) (by kernel_rfl) (by kernel_rfl) (fun _ _ _ h => h) (by rfl) (by assumption) ?_; (try simp only [Act.put, List.setIfInBounds_toArray, List.set_cons_zero, List.set_cons_succ]); refine regU 16 71 rfl rfl (by kernel_rfl) (by kernel_rfl) (by kernel_rfl) (fun _ _ _ h => h) (by rfl) (by assumption) ?_; (try simp only [Act.put, List.setIfInBounds_toArray, List.set_cons_zero, List.set_cons_succ]); refine regU 17 72 rfl rfl (by kernel_rfl) (by kernel_rfl) (by kernel_rfl) (fun _ _ _ h => h) (by rfl) (by assumption) ?_; (try simp only [Act.put, List.setIfInBounds_toArray, List.set_cons_zero, List.set_cons_succ]); refine regU 18 73 rfl rfl (by kernel_rfl) (by kernel_rfl) (by kernel_rfl) (fun _ _ _ h => h) (by rfl) (by assumption) ?_; (try simp only [Act.put, List.setIfInBounds_toArray, List.set_cons_zero, List.set_cons_succ]); refine regU 19 74 rfl rfl (by kernel_rfl) (by kernel_rfl) (by kernel_rfl) (fun _ _ _ h => h) (by rfl) (by assumption) ?_; (try simp only [Act.put, List.setIfInBounds_toArray, List.set_cons_zero, List.set_cons_succ]); refine regT 20 75 (v := ?_) rfl rfl (by kernel_rfl) (by kernel_rfl) (by kernel_rfl) (fun _ _ _ h => h) (by rfl) ?_ (by assumption) ?_; rotate_left; (focus (intro w hSw; (try dsimp only at hSw); go_simp; (try with_reducible rfl))); (try simp only [Act.put, List.setIfInBounds_toArray, List.set_cons_zero, List.set_cons_succ]); refine wpAnyH_done (by kernel_rfl) ?_ _; all_goals (have hb := And.right (by assumption : Held W0 _); have hst := xr hb; (try simp only [zA, zC, zD, zN] at hst); obtain ⟨hc, hf, hz⟩ := hst))
            all_goals go_wp2
            go_ret
            exact ⟨ret_b (by rw [HE.out, Hrel.out, c1]; simp), ext_⟩
        case true =>
          have yt0 : 0 ≤ y.ticket := (Sw.dealOk_iff.1 c1).1.1
          have Lst : LastAt m.deals (j + 1 + 1) y.ticket := .inr ⟨j + 1, _, rfl, Hy.out, rfl, yt0⟩
          have Lst := Lib.hid Lst
          clear yt0 hs
          by_cases hle : y.ticket ≤ yj'.ticket
          · have Hle := Lib.hid hle
            go_wp2_with fail
            (refine wp_name ?_; intro W0 hb0; have hst := xr hb0; (try simp only [zA, zC, zD, zN] at hst); obtain ⟨hc0, hf0, hz0⟩ := hst; refine wp_region_held_drew (S := fun w' => Held W0 w') (by kernel_rfl) ?_ (fun hHeld => ?_); (focus ((try dsimp only); (first | with_reducible assumption | with_reducible exact Held.start _ | with_reducible exact Held.of (by assumption) | with_reducible exact Held.ex (by assumption) (by assumption) | ((repeat (first | with_reducible refine Held.set ?_ (by simp only [zA, zC, zD, zN]; omega) | with_reducible refine Held.alloc ?_ _ | with_reducible refine Held.drew ?_)); (first | with_reducible assumption | with_reducible exact Held.refl _ | with_reducible exact Held.of (by assumption) | with_reducible exact Held.ex (by assumption) (by assumption))) | exact Held.of (by exact ext_)))); refine regT 0 55 (v := ?_) rfl rfl (by kernel_rfl) (by kernel_rfl) (by kernel_rfl) (fun _ _ _ h => h) (by rfl) ?_ (by assumption) ?_; rotate_left; (focus (intro w hSw; (try dsimp only at hSw); go_simp; (try with_reducible rfl))); (try simp only [Act.put, List.setIfInBounds_toArray, List.set_cons_zero, List.set_cons_succ]); refine regT 1 56 (v := ?_) rfl rfl (by kernel_rfl) (by kernel_rfl) (by kernel_rfl) (fun _ _ _ h => h) (by rfl) ?_ (by assumption) ?_; rotate_left; (focus (intro w hSw; (try dsimp only at hSw); go_simp; (try with_reducible rfl))); (try simp only [Act.put, List.setIfInBounds_toArray, List.set_cons_zero, List.set_cons_succ]); refine regT 2 57 (v := ?_) rfl rfl (by kernel_rfl) (by kernel_rfl) (by kernel_rfl) (fun _ _ _ h => h) (by rfl) ?_ (by assumption) ?_; rotate_left; (focus (intro w hSw; (try dsimp only at hSw); go_simp; (try with_reducible rfl))); (try simp only [Act.put, List.setIfInBounds_toArray, List.set_cons_zero, List.set_cons_succ]); refine wpAnyH_ready (rs := [3]) (by kernel_rfl) (by simp) ?_; refine AllReadyH.cons rfl (fun K hK => ?_) ?_; rotate_left; (focus exact AllReadyH.nil); go_simp; (go_at_call 110; apply Calls.mono; apply iDealOk_c; ((first | (apply Rs.at0; assumption) | (apply Ow.rs0; assumption) | (apply OwT.rs0; assumption)); exact kf_); (first | assumption | omega); (first | assumption | omega); rintro E w1 ⟨rfl, hb⟩; have hst := xr hb; (try simp only [zA, zC, zD, zN] at hst); obtain ⟨hc, hf, hz⟩ := hst); (try go_wp2_with fail); refine hK.out _ _ ?_ (fun hHeld => ?_); (focus ((try dsimp only); (first | with_reducible assumption | with_reducible exact Held.start _ | with_reducible exact Held.of (by assumption) | with_reducible exact Held.ex (by assumption) (by assumption) | ((repeat (first | with_reducible refine Held.set ?_ (by simp only [zA, zC, zD, zN]; omega) | with_reducible refine Held.alloc ?_ _ | with_reducible refine Held.drew ?_)); (first | with_reducible assumption | with_reducible exact Held.refl _ | with_reducible exact Held.of (by assumption) | with_reducible exact Held.ex (by assumption) (by assumption))) | exact Held.of (by exact ext_)))); clear hK K; (try simp only [Act.put, List.setIfInBounds_toArray, List.set_cons_zero, List.set_cons_succ]); refine regT 4 59 (v := ?_) rfl rfl (by kernel_rfl) (by kernel_rfl) (by kernel_rfl) (fun _ _ _ h => h) (by rfl) ?_ (by assumption) ?_; rotate_left; (focus (intro w hSw; (try dsimp only at hSw); go_simp; (try with_reducible rfl))); (try simp only [Act.put, List.setIfInBounds_toArray, List.set_cons_zero, List.set_cons_succ]); refine regT 5 60 (v := ?_) rfl rfl (by kernel_rfl) (by kernel_rfl) (by kernel_rfl) (fun _ _ _ h => h) (by rfl) ?_ (by assumption) ?_; rotate_left; (focus (intro w hSw; (try dsimp only at hSw); go_simp; (try with_reducible rfl))); (try simp only [Act.put, List.setIfInBounds_toArray, List.set_cons_zero, List.set_cons_succ]); refine regT 6 61 (v := ?_) rfl rfl (by kernel_rfl) (by kernel_rfl) (by kernel_rfl) (fun _ _ _ h => h) (by rfl) ?_ (by assumption) ?_; rotate_left; (focus (intro w hSw; (try dsimp only at hSw); go_simp; (try with_reducible rfl))); (try simp only [Act.put, List.setIfInBounds_toArray, List.set_cons_zero, List.set_cons_succ]); refine regT 7 62 (v := ?_) rfl rfl (by kernel_rfl) (by kernel_rfl) (by kernel_rfl) (fun _ _ _ h => h) (by rfl) ?_ (by assumption) ?_; rotate_left; (focus (intro w hSw; (try dsimp only at hSw); go_simp; (try with_reducible rfl))); (try simp only [Act.put, List.setIfInBounds_toArray, List.set_cons_zero, List.set_cons_succ]); refine regT 8 63 (v := ?_) rfl rfl (by kernel_rfl) (by kernel_rfl) (by kernel_rfl) (fun _ _ _ h => h) (by rfl) ?_ (by assumption) ?_; rotate_left; (focus (intro w hSw; (try dsimp only at hSw); go_simp; (try with_reducible rfl))); (try simp only [Act.put, List.setIfInBounds_toArray, List.set_cons_zero, List.set_cons_succ]); refine regT 9 64 (v := ?_) rfl rfl (by kernel_rfl) (by kernel_rfl) (by kernel_rfl) (fun _ _ _ h => h) (by rfl) ?_ (by assumption) ?_; rotate_left; (focus (intro w hSw; (try dsimp only at hSw); go_simp; (try with_reducible rfl))); (try simp only [Act.put, List.setIfInBounds_toArray, List.set_cons_zero, List.set_cons_succ]); refine regT 10 65 (v := ?_) rfl rfl (by kernel_rfl) (by kernel_rfl) (by kernel_rfl) (fun _ _ _ h => h) (by rfl) ?_ (by assumption) ?_; rotate_left; (focus (intro w hSw; (try dsimp only at hSw); go_simp; (try with_reducible rfl))); (try simp only [Act.put, List.setIfInBounds_toArray, List.set_cons_zero, List.set_cons_succ]); refine regT 11 66 (v := ?_) rfl rfl (by kernel_rfl) (by kernel_rfl) (by kernel_rfl) (fun _ _ _ h => h) (by rfl) ?_ (by assumption) ?_; rotate_left; (focus (intro w hSw; (try dsimp only at hSw); go_simp; (try with_reducible rfl))); (try simp only [Act.put, List.setIfInBounds_toArray, List.set_cons_zero, List.set_cons_succ]); refine regT 12 67 (v := ?_) rfl rfl (by kernel_rfl) (by kernel_rfl) (by kernel_rfl) (fun _ _ _ h => h) (by rfl) ?_ (by assumption) ?_; rotate_left; (focus (intro w hSw; (try dsimp only at hSw); go_simp; (try with_reducible rfl))); (try simp only [Act.put, List.setIfInBounds_toArray, List.set_cons_zero, List.set_cons_succ]); refine regT 13 68 (v := ?_) rfl rfl (by kernel_rfl) (by kernel_rfl) (by kernel_rfl) (fun _ _ _ h => h) (by rfl) ?_ (by assumption) ?_; rotate_left; (focus (intro w hSw; (try dsimp only at hSw); go_simp; (try with_reducible rfl))); (try simp only [Act.put, List.setIfInBounds_toArray, List.set_cons_zero, List.set_cons_succ]); refine regT 14 69 (v := ?_) rfl rfl (by kernel_rfl) (by kernel_rfl) (by kernel_rfl) (fun _ _ _ h => h) (by rfl) ?_ (by assumption) ?_; rotate_left; (focus (intro w hSw; (try dsimp only at hSw); go_simp; (try with_reducible rfl))); (try simp only [Act.put, List.setIfInBounds_toArray, List.set_cons_zero, List.set_cons_succ]); refine regT 15 70 (v := ?_) rfl rfl (by kernel_rfl) (by kernel_rfl) (by kernel_rfl) (fun _ _ _ h => h) (by rfl) ?_ (by assumption) ?_; rotate_left; (focus (intro w hSw; (try dsimp only at hSw); go_simp; (try with_reducible rfl))); (try simp only [Act.put, List.setIfInBounds_toArray, List.set_cons_zero, List.set_cons_succ]); refine regT 16 71 (v := ?_) rfl rfl (by kernel_rfl) (by kernel_rfl) (by kernel_rfl) (fun _ _ _ h => h) (by rfl) ?_ (by assumption) ?_; rotate_left; (focus (intro w hSw; (try dsimp only at hSw); go_simp; (try with_reducible rfl))); (try simp only [Act.put, List.setIfInBounds_toArray, List.set_cons_zero, List.set_cons_succ]); refine regT 17 72 (v := ?_) rfl rfl (by kernel_rfl) (by kernel_rfl) (by kernel_rfl) (fun _ _ _ h => h) (by rfl) ?_ (by assumption) ?_; rotate_left; (focus (intro w hSw; (try dsimp only at hSw); go_simp; (try with_reducible rfl))); (try simp only [Act.put, List.setIfInBounds_toArray, List.set_cons_zero, List.set_cons_succ]); refine regT 18 73 (v := ?_) rfl rfl (by kernel_rfl) (by kernel_rfl) (by kernel_rfl) (fun _ _ _ h => h) (by rfl) ?_ (by assumption) ?_; rotate_left; (focus (intro w hSw; (try dsimp only at hSw); go_simp; (try with_reducible rfl))); (try simp only [Act.put, List.setIfInBounds_toArray, List.set_cons_zero, List.set_cons_succ]); refine regT 19 74 (v := ?_) rfl rfl (by kernel_rfl) (by kernel_rfl) (by kernel_rfl) (fun _ _ _ h => h) (by rfl) ?_ (by assumption) ?_; rotate_left; (focus (intro w hSw; (try dsimp only at hSw); go_simp; (try with_reducible rfl))); (try simp only [Act.put, List.setIfInBounds_toArray, List.set_cons_zero, List.set_cons_succ]); refine regT 20 75 (v := ?_) rfl rfl (by kernel_rfl) (by kernel_rfl) (by kernel_rfl) (fun _ _ _ h => h) (by rfl) ?_ (by assumption) ?_; rotate_left; (focus (intro w hSw; (try dsimp only at hSw); go_simp; (try with_reducible rfl))); (try simp only [Act.put, List.setIfInBounds_toArray, List.set_cons_zero, List.set_cons_succ]); refine wpAnyH_done (by kernel_rfl) ?_ _; all_goals (have hb := And.right (by assumption : Held W0 _); have hst := xr hb; (try simp only [zA, zC, zD, zN] at hst); obtain ⟨hc, hf, hz⟩ := hst))
            all_goals go_wp2
            go_ret
            exact ⟨ret_b (by have := Hle.out; rw [HE.out, Hrel.out, show decide (yj'.ticket < y.ticket) = false from by simp; omega]; simp), ext_⟩
          · have hle' : decide (y.ticket ≤ yj'.ticket) = false := by simp; omega
            have Hle := Lib.hid hle
            go_wp2_with fail
            (refine wp_name ?_; intro W0 hb0; have hst := xr hb0; (try simp only [zA, zC, zD, zN] at hst); obtain ⟨hc0, hf0, hz0⟩ := hst; refine wp_region_held_drew (S := fun w' => Held W0 w') (by kernel_rfl) ?_ (fun hHeld => ?_); (focus ((try dsimp only); (first | with_reducible assumption | with_reducible exact Held.start _ | with_reducible exact Held.of (by assumption) | with_reducible exact Held.ex (by assumption) (by assumption) | ((repeat (first | with_reducible refine Held.set ?_ (by simp only [zA, zC, zD, zN]; omega) | with_reducible refine Held.alloc ?_ _ | with_reducible refine Held.drew ?_)); (first | with_reducible assumption | with_reducible exact Held.refl _ | with_reducible exact Held.of (by assumption) | with_reducible exact Held.ex (by assumption) (by assumption))) | exact Held.of (by exact ext_)))); refine regT 0 55 (v := ?_) rfl rfl (by kernel_rfl) (by kernel_rfl) (by kernel_rfl) (fun _ _ _ h => h) (by rfl) ?_ (by assumption) ?_; rotate_left; (focus (intro w hSw; (try dsimp only at hSw); go_simp; (try with_reducible rfl))); (try simp only [Act.put, List.setIfInBounds_toArray, List.set_cons_zero, List.set_cons_succ]); refine regT 1 56 (v := ?_) rfl rfl (by kernel_rfl) (by kernel_rfl) (by kernel_rfl) (fun _ _ _ h => h) (by rfl) ?_ (by assumption) ?_; rotate_left; (focus (intro w hSw; (try dsimp only at hSw); go_simp; (try with_reducible rfl))); (try simp only [Act.put, List.setIfInBounds_toArray, List.set_cons_zero, List.set_cons_succ]); refine regT 2 57 (v := ?_) rfl rfl (by kernel_rfl) (by kernel_rfl) (by kernel_rfl) (fun _ _ _ h => h) (by rfl) ?_ (by assumption) ?_; rotate_left; (focus (intro w hSw; (try dsimp only at hSw); go_simp; (try with_reducible rfl))); (try simp only [Act.put, List.setIfInBounds_toArray, List.set_cons_zero, List.set_cons_succ]); refine wpAnyH_ready (rs := [3]) (by kernel_rfl) (by simp) ?_; refine AllReadyH.cons rfl (fun K hK => ?_) ?_; rotate_left; (focus exact AllReadyH.nil); go_simp; (go_at_call 110; apply Calls.mono; apply iDealOk_c; ((first | (apply Rs.at0; assumption) | (apply Ow.rs0; assumption) | (apply OwT.rs0; assumption)); exact kf_); (first | assumption | omega); (first | assumption | omega); rintro E w1 ⟨rfl, hb⟩; have hst := xr hb; (try simp only [zA, zC, zD, zN] at hst); obtain ⟨hc, hf, hz⟩ := hst); (try go_wp2_with fail); refine hK.out _ _ ?_ (fun hHeld => ?_); (focus ((try dsimp only); (first | with_reducible assumption | with_reducible exact Held.start _ | with_reducible exact Held.of (by assumption) | with_reducible exact Held.ex (by assumption) (by assumption) | ((repeat (first | with_reducible refine Held.set ?_ (by simp only [zA, zC, zD, zN]; omega) | with_reducible refine Held.alloc ?_ _ | with_reducible refine Held.drew ?_)); (first | with_reducible assumption | with_reducible exact Held.refl _ | with_reducible exact Held.of (by assumption) | with_reducible exact Held.ex (by assumption) (by assumption))) | exact Held.of (by exact ext_)))); clear hK K; (try simp only [Act.put, List.setIfInBounds_toArray, List.set_cons_zero, List.set_cons_succ]); refine regT 4 59 (v := ?_) rfl rfl (by kernel_rfl) (by kernel_rfl) (by kernel_rfl) (fun _ _ _ h => h) (by rfl) ?_ (by assumption) ?_; rotate_left; (focus (intro w hSw; (try dsimp only at hSw); go_simp; (try with_reducible rfl))); (try simp only [Act.put, List.setIfInBounds_toArray, List.set_cons_zero, List.set_cons_succ]); refine regT 5 60 (v := ?_) rfl rfl (by kernel_rfl) (by kernel_rfl) (by kernel_rfl) (fun _ _ _ h => h) (by rfl) ?_ (by assumption) ?_; rotate_left; (focus (intro w hSw; (try dsimp only at hSw); go_simp; (try with_reducible rfl))); (try simp only [Act.put, List.setIfInBounds_toArray, List.set_cons_zero, List.set_cons_succ]); refine regT 6 61 (v := ?_) rfl rfl (by kernel_rfl) (by kernel_rfl) (by kernel_rfl) (fun _ _ _ h => h) (by rfl) ?_ (by assumption) ?_; rotate_left; (focus (intro w hSw; (try dsimp only at hSw); go_simp; (try with_reducible rfl))); (try simp only [Act.put, List.setIfInBounds_toArray, List.set_cons_zero, List.set_cons_succ]); refine regT 7 62 (v := ?_) rfl rfl (by kernel_rfl) (by kernel_rfl) (by kernel_rfl) (fun _ _ _ h => h) (by rfl) ?_ (by assumption) ?_; rotate_left; (focus (intro w hSw; (try dsimp only at hSw); go_simp; (try with_reducible rfl))); (try simp only [Act.put, List.setIfInBounds_toArray, List.set_cons_zero, List.set_cons_succ]); refine regT 8 63 (v := ?_) rfl rfl (by kernel_rfl) (by kernel_rfl) (by kernel_rfl) (fun _ _ _ h => h) (by rfl) ?_ (by assumption) ?_; rotate_left; (focus (intro w hSw; (try dsimp only at hSw); go_simp; (try with_reducible rfl))); (try simp only [Act.put, List.setIfInBounds_toArray, List.set_cons_zero, List.set_cons_succ]); refine regT 9 64 (v := ?_) rfl rfl (by kernel_rfl) (by kernel_rfl) (by kernel_rfl) (fun _ _ _ h => h) (by rfl) ?_ (by assumption) ?_; rotate_left; (focus (intro w hSw; (try dsimp only at hSw); go_simp; (try with_reducible rfl))); (try simp only [Act.put, List.setIfInBounds_toArray, List.set_cons_zero, List.set_cons_succ]); refine regT 10 65 (v := ?_) rfl rfl (by kernel_rfl) (by kernel_rfl) (by kernel_rfl) (fun _ _ _ h => h) (by rfl) ?_ (by assumption) ?_; rotate_left; (focus (intro w hSw; (try dsimp only at hSw); go_simp; (try with_reducible rfl))); (try simp only [Act.put, List.setIfInBounds_toArray, List.set_cons_zero, List.set_cons_succ]); refine regT 11 66 (v := ?_) rfl rfl (by kernel_rfl) (by kernel_rfl) (by kernel_rfl) (fun _ _ _ h => h) (by rfl) ?_ (by assumption) ?_; rotate_left; (focus (intro w hSw; (try dsimp only at hSw); go_simp; (try with_reducible rfl))); (try simp only [Act.put, List.setIfInBounds_toArray, List.set_cons_zero, List.set_cons_succ]); refine regT 12 67 (v := ?_) rfl rfl (by kernel_rfl) (by kernel_rfl) (by kernel_rfl) (fun _ _ _ h => h) (by rfl) ?_ (by assumption) ?_; rotate_left; (focus (intro w hSw; (try dsimp only at hSw); go_simp; (try with_reducible rfl))); (try simp only [Act.put, List.setIfInBounds_toArray, List.set_cons_zero, List.set_cons_succ]); refine regT 13 68 (v := ?_) rfl rfl (by kernel_rfl) (by kernel_rfl) (by kernel_rfl) (fun _ _ _ h => h) (by rfl) ?_ (by assumption) ?_; rotate_left; (focus (intro w hSw; (try dsimp only at hSw); go_simp; (try with_reducible rfl))); (try simp only [Act.put, List.setIfInBounds_toArray, List.set_cons_zero, List.set_cons_succ]); refine regT 14 69 (v := ?_) rfl rfl (by kernel_rfl) (by kernel_rfl) (by kernel_rfl) (fun _ _ _ h => h) (by rfl) ?_ (by assumption) ?_; rotate_left; (focus (intro w hSw; (try dsimp only at hSw); go_simp; (try with_reducible rfl))); (try simp only [Act.put, List.setIfInBounds_toArray, List.set_cons_zero, List.set_cons_succ]); refine regT 15 70 (v := ?_) rfl rfl (by kernel_rfl) (by kernel_rfl) (by kernel_rfl) (fun _ _ _ h => h) (by rfl) ?_ (by assumption) ?_; rotate_left; (focus (intro w hSw; (try dsimp only at hSw); go_simp; (try with_reducible rfl))); (try simp only [Act.put, List.setIfInBounds_toArray, List.set_cons_zero, List.set_cons_succ]); refine regT 16 71 (v := ?_) rfl rfl (by kernel_rfl) (by kernel_rfl) (by kernel_rfl) (fun _ _ _ h => h) (by rfl) ?_ (by assumption) ?_; rotate_left; (focus (intro w hSw; (try dsimp only at hSw); go_simp; (try with_reducible rfl))); (try simp only [Act.put, List.setIfInBounds_toArray, List.set_cons_zero, List.set_cons_succ]); refine regT 17 72 (v := ?_) rfl rfl (by kernel_rfl) (by kernel_rfl) (by kernel_rfl) (fun _ _ _ h => h) (by rfl) ?_ (by assumption) ?_; rotate_left; (focus (intro w hSw; (try dsimp only at hSw); go_simp; (try with_reducible rfl))); (try simp only [Act.put, List.setIfInBounds_toArray, List.set_cons_zero, List.set_cons_succ]); refine regT 18 73 (v := ?_) rfl rfl (by kernel_rfl) (by kernel_rfl) (by kernel_rfl) (fun _ _ _ h => h) (by rfl) ?_ (by assumption) ?_; rotate_left; (focus (intro w hSw; (try dsimp only at hSw); go_simp; (try with_reducible rfl))); (try simp only [Act.put, List.setIfInBounds_toArray, List.set_cons_zero, List.set_cons_succ]); refine regT 19 74 (v := ?_) rfl rfl (by kernel_rfl) (by kernel_rfl) (by kernel_rfl) (fun _ _ _ h => h) (by rfl) ?_ (by assumption) ?_; rotate_left; (focus (intro w hSw; (try dsimp only at hSw); go_simp; (try with_reducible rfl))); (try simp only [Act.put, List.setIfInBounds_toArray, List.set_cons_zero, List.set_cons_succ]); refine regT 20 75 (v := ?_) rfl rfl (by kernel_rfl) (by kernel_rfl) (by kernel_rfl) (fun _ _ _ h => h) (by rfl) ?_ (by assumption) ?_; rotate_left; (focus (intro w hSw; (try dsimp only at hSw); go_simp; (try with_reducible rfl))); (try simp only [Act.put, List.setIfInBounds_toArray, List.set_cons_zero, List.set_cons_succ]); refine wpAnyH_done (by kernel_rfl) ?_ _; all_goals (have hb := And.right (by assumption : Held W0 _); have hst := xr hb; (try simp only [zA, zC, zD, zN] at hst); obtain ⟨hc, hf, hz⟩ := hst))
            all_goals go_wp2
            go_roundw
            case rel => exact ⟨j + 1 + 1, y.ticket, by omega, by go_num, .inr (.inr ⟨by omega, by first | rfl | (simp; done) | (simp; omega)⟩), ext_, Lst.out, by have := Hle.out; rw [Hrel.out, c1]; simp; omega⟩
            case measure => simp [intOf]; omega
    · rw [List.drop_of_length_le (by have := l3.out; omega)] at hrel
      have hdk : Sw.DOk m.clock rows m.deals := Sw.dealsOk_iff'.1 hrel
      have hS := Sw.monSum_bd g1
      have hH := Sw.heldSum_bd hdk.1
      rw [← Sw.heldOf_eq hdk (by have := l3.out; omega), ← l3.out] at hH
      have hsum : IntKind.i64.wrap (Sw.monSum m.purses + Sw.mktHeld m) = Sw.monSum m.purses + Sw.mktHeld m := by
        rw [IntWalk.i64_in _ (by unfold Sw.mktHeld; omega)]
      have Hsum := Lib.hid hsum
      have Hrel := Lib.hid hrel; clear hrel hp hdk hS hH hsum
      go_wp2_with fail
      go_loopw [80] (fun i wx => ∃ (k : Nat), k ≤ 5 ∧ i = .int .i64 k ∧ Ex w2 wx ∧ Sw.numsOk m.nums m.said = Sw.numsOk (m.nums.drop k) (m.said.drop k)) (fun i _ => 5 - (intOf i).toNat)
      case atStart => exact ⟨0, Nat.zero_le _, rfl, ext_, rfl⟩
      case round =>
        obtain ⟨k', hk', rfl, hb3, hrel⟩ := hrel
        have hst := xr hb3
        obtain ⟨hc3, hf3, hz3⟩ := hst
        by_cases hlt' : k' < 5
        · obtain ⟨gn, offn, a, rfl, hgn0, hgn, hdn, hyn, hcn⟩ := at_I m4 hlt'
          obtain ⟨gs, offs, b, rfl, hgs0, hgs, hds, hys, hcs⟩ := at_I m5 hlt'
          rw [numsOk_at hdn hds] at hrel
          have HN := Lib.hid hrel
          clear hdn hyn hds hys hrel
          cases c1 : Sw.inR a 0 99999
          case false =>
            go_wp2_with (first | (go_at_call 96; refine (in_c _ _ _ _).mono ?_; rintro E w' ⟨rfl, rfl⟩))
            go_ret
            exact ⟨ret_b (by rw [HE.out, HN.out, Sw.numOk, c1]; simp), ext_⟩
          cases c2 : Sw.inR b 0 6
          case false =>
            go_wp2_with (first | (go_at_call 96; refine (in_c _ _ _ _).mono ?_; rintro E w' ⟨rfl, rfl⟩))
            go_ret
            exact ⟨ret_b (by rw [HE.out, HN.out, Sw.numOk, c2]; simp), ext_⟩
          cases c3 : (a == 0)
          all_goals cases c4 : (b == 0)
          all_goals
            go_wp2_with (first | (go_at_call 96; refine (in_c _ _ _ _).mono ?_; rintro E w' ⟨rfl, rfl⟩))
            first
              | exact ⟨⟨k' + 1, by omega, by go_num, ext_, by rw [HN.out, Sw.numOk, c1, c2, ← beqI, ← beqI, c3, c4]; simp⟩, by simp [intOf]; omega⟩ | (go_ret; exact ⟨ret_b (by rw [HE.out, HN.out, Sw.numOk, ← beqI, ← beqI, c3, c4]; simp), ext_⟩)
        · have HN := Lib.hid hrel; clear hrel
          go_wp2_with fail
          (refine wp_name ?_; intro W0 hb0; have hst := xr hb0; (try simp only [zA, zC, zD, zN] at hst); obtain ⟨hc0, hf0, hz0⟩ := hst; go_region_held3 (fun w' => Held W0 w') ((first | with_reducible assumption | with_reducible exact Held.start _ | with_reducible exact Held.of (by assumption) | with_reducible exact Held.ex (by assumption) (by assumption) | ((repeat (first | with_reducible refine Held.set ?_ (by simp only [zA, zC, zD, zN]; omega) | with_reducible refine Held.alloc ?_ _ | with_reducible refine Held.drew ?_)); (first | with_reducible assumption | with_reducible exact Held.refl _ | with_reducible exact Held.of (by assumption) | with_reducible exact Held.ex (by assumption) (by assumption))) | exact Held.of (by exact ext_))) ((first | (go_at_call 40; apply Calls.mono; apply iMonSum_c; ((first | (apply Rs.at0; assumption) | (apply Ow.rs0; assumption) | (apply OwT.rs0; assumption)); exact kf_); rintro E w' ⟨rfl, rfl⟩) | (go_at_call 44; apply Calls.mono; apply iMktHeld_c; ((first | (apply RM.at0; assumption) | (apply OwM.rm0; assumption)); exact kf_); rintro E w1 ⟨rfl, hb⟩; have hst := xr hb; (try simp only [zA, zC, zD, zN] at hst); obtain ⟨hc, hf, hz⟩ := hst))); all_goals (have hb := And.right (by assumption : Held W0 _); have hst := xr hb; (try simp only [zA, zC, zD, zN] at hst); obtain ⟨hc, hf, hz⟩ := hst))
          go_wp2
          go_ret
          refine ⟨ret_b ?_, ext_⟩
          rw [HE.out, HN.out, Hrel.out, List.drop_of_length_le (by have := l4.out; omega), Hsum.out]
          simp [Sw.dealsOk, Sw.numsOk]
end Go.Proofs.Ytgceeggfdomdjaa

namespace Go.Proofs.Ytgceeggfdomdjaa
set_option maxRecDepth 100000
set_option linter.unusedSimpArgs false
set_option linter.unusedVariables false
open Go.RowKit Go
set_option maxHeartbeats 2000000

theorem sMktTick_c (aL : Option Addr) (aLc aLn : Nat) (aP : Option Addr) (aPc aPn : Nat) (aD : Option Addr) (aDc aDn : Nat) (aN : Option Addr) (aNc aNn : Nat) (aS : Option Addr) (aSc aSn : Nat) (m : Sw.Mkt) (w : World) (hm : RM w 0 aL aLc aLn aP aPc aPn aD aDc aDn aN aNc aNn aS aSc aSn m) (hn : aLn + aPn + aDn + aNn + aSn ≤ 1048576) : Calls Try.prog 43 #[.agg #[.slice aL aLn aLc, .slice aP aPn aPc, .slice aD aDn aDc, .int .i64 m.clock, .slice aN aNn aNc, .slice aS aSn aSc]] w fun E w' => ∃ bL bLc bLn bP bPc bPn bD bDc bDn bN bNc bNn bS bSc bSn τ, E = .returned (.tuple #[.agg #[.slice bL bLn bLc, .slice bP bPn bPc, .slice bD bDn bDc, .int .i64 (Sw.mktTick m).1.clock, .slice bN bNn bNc, .slice bS bSn bSc], .bool (Sw.mktTick m).2]) ∧ OwM τ w' w.heap.size bL bLc bLn bP bPc bPn bD bDc bDn bN bNc bNn bS bSc bSn (Sw.mktTick m).1 ∧ Ex w w' := by
  cases g1 : Sw.mktOk m
  case false =>
    have e : Sw.mktTick m = (⟨[], [], [], 0, [], []⟩, false) := by simp [Sw.mktTick, g1, Sw.mktZ]
    have He := Lib.hid e; clear e
    go_enter Try.func43, Try.ntmps43
    go_wp2_with (first | (go_at_call 45; apply Calls.mono; apply sMktOk_c; ((first | (apply RM.at0; assumption) | (apply OwM.rm0; assumption)); exact kf_); rintro E w1 ⟨rfl, hb⟩; have hst := xr hb; (try simp only [zA, zC, zD, zN] at hst); obtain ⟨hc, hf, hz⟩ := hst))
    refine bodyPost_ret (v := .tuple #[.agg #[.slice none 0 0, .slice none 0 0, .slice none 0 0, .int .i64 0, .slice none 0 0, .slice none 0 0], .bool false]) (by simp [results, Try.results43, go_sem, *]) rfl ?_
    refine ⟨_, _, _, _, _, _, _, _, _, _, _, _, _, _, _, fun _ => 0, by rw [He.out], ?_, ext_⟩
    rw [He.out]
    exact ⟨OwT.nil .., OwT.nil .., OwT.nil .., OwT.nil .., OwT.nil ..⟩
  have hok := (Sw.mktOk_iff.1 g1)
  obtain ⟨rows, hok⟩ := hok
  have hck := hok.clk
  obtain ⟨ck0, ck1⟩ := hck
  clear hok
  by_cases g2 : m.clock = 99999
  · have g2' : (m.clock == 99999) = true := by simp [g2]
    have e : Sw.mktTick m = (m, false) := by simp [Sw.mktTick, g1, g2]
    have He := Lib.hid e; clear e g2
    go_enter Try.func43, Try.ntmps43
    go_wp2_with (first | (go_at_call 45; apply Calls.mono; apply sMktOk_c; ((first | (apply RM.at0; assumption) | (apply OwM.rm0; assumption)); exact kf_); rintro E w1 ⟨rfl, hb⟩; have hst := xr hb; (try simp only [zA, zC, zD, zN] at hst); obtain ⟨hc, hf, hz⟩ := hst) | (go_at_call 102; apply Calls.mono; apply sMktCopy_c; ((first | (apply RM.at0; assumption) | (apply OwM.rm0; assumption)); exact kf_); (first | assumption | omega); rintro E w1 ⟨bL, bLc, bLn, bP, bPc, bPn, bD, bDc, bDn, bN, bNc, bNn, bS, bSc, bSn, τ, rfl, ho, hb⟩; have hst := xr hb; (try simp only [zA, zC, zD, zN] at hst); obtain ⟨hc, hf, hz⟩ := hst))
    refine bodyPost_ret (v := .tuple #[.agg #[.slice bL bLn bLc, .slice bP bPn bPc, .slice bD bDn bDc, .int .i64 m.clock, .slice bN bNn bNc, .slice bS bSn bSc], .bool false]) (by simp [results, Try.results43, go_sem, *]) rfl ?_
    refine ⟨_, _, _, _, _, _, _, _, _, _, _, _, _, _, _, τ, by rw [He.out], ?_, ext_⟩
    rw [He.out]
    exact OwM.less (ho.keepF (by (exact kf_))) (by exact sz_)
  · have g2' : (m.clock == 99999) = false := by simp [g2]
    have e : Sw.mktTick m = (Sw.tick m, true) := by simp [Sw.mktTick, g1, g2]
    have He := Lib.hid e; clear e g2
    have l3 := Lib.hid hm.deals.1
    have l2 := Lib.hid hm.purses.1
    go_enter Try.func43, Try.ntmps43
    go_wp2_with (first | (go_at_call 45; apply Calls.mono; apply sMktOk_c; ((first | (apply RM.at0; assumption) | (apply OwM.rm0; assumption)); exact kf_); rintro E w1 ⟨rfl, hb⟩; have hst := xr hb; (try simp only [zA, zC, zD, zN] at hst); obtain ⟨hc, hf, hz⟩ := hst) | (go_at_call 102; apply Calls.mono; apply sMktCopy_c; ((first | (apply RM.at0; assumption) | (apply OwM.rm0; assumption)); exact kf_); (first | assumption | omega); rintro E w1 ⟨bL, bLc, bLn, bP, bPc, bPn, bD, bDc, bDn, bN, bNc, bNn, bS, bSc, bSn, τ, rfl, ho, hb⟩; have hst := xr hb; (try simp only [zA, zC, zD, zN] at hst); obtain ⟨hc, hf, hz⟩ := hst))
    apply Calls.mono
    apply (sTick_c (τ := τ))
    · exact ho.keepF (by (exact kf_))
    · exact ck0
    · exact ck1
    · have := ho.deals.ow.1; have := l3.out; omega
    · have := ho.purses.ow.1; have := l2.out; omega
    · exact sz_
    rintro E w3 ⟨A3, c3, τ3, rfl, ho3, hτ3, hb3⟩
    obtain ⟨hc3, hf3⟩ := low_rules (fun b hb => hb3.block b (by exact sz_) (fun h => Nat.not_lt.2 h.1 hb))
    have hex : Ex w w3 := Ch.trans' (show Ex w _ from ext_) hb3 (fun i hi h => absurd h.1 (by (first | omega | (simp only [zA, zC, zD, zN] at *; omega) | (simp only [zA, zC, zD, zN]; omega))))
    clear hb3 hτ3
    go_wp2
    refine bodyPost_ret (v := .tuple #[.agg #[.slice bL bLn bLc, .slice A3 bPn c3, .slice bD bDn bDc, .int .i64 (m.clock + 1), .slice bN bNn bNc, .slice bS bSn bSc], .bool true]) (by simp [results, Try.results43, go_sem, *]) rfl ?_
    refine ⟨_, _, _, _, _, _, _, _, _, _, _, _, _, _, _, τ3, by rw [He.out]; rfl, ?_, ext_⟩
    rw [He.out]
    exact OwM.less (ho3.keepF (by (exact kf_))) (by exact sz_)
theorem iMktTick_c (aL : Option Addr) (aLc aLn : Nat) (aP : Option Addr) (aPc aPn : Nat) (aD : Option Addr) (aDc aDn : Nat) (aN : Option Addr) (aNc aNn : Nat) (aS : Option Addr) (aSc aSn : Nat) (m : Sw.Mkt) (w : World) (hm : RM w 0 aL aLc aLn aP aPc aPn aD aDc aDn aN aNc aNn aS aSc aSn m) (hn : aLn + aPn + aDn + aNn + aSn ≤ 1048576) : Calls Try.prog 42 #[.agg #[.slice aL aLn aLc, .slice aP aPn aPc, .slice aD aDn aDc, .int .i64 m.clock, .slice aN aNn aNc, .slice aS aSn aSc]] w fun E w' => ∃ bL bLc bLn bP bPc bPn bD bDc bDn bN bNc bNn bS bSc bSn τ, E = .returned (.tuple #[.agg #[.slice bL bLn bLc, .slice bP bPn bPc, .slice bD bDn bDc, .int .i64 (Sw.mktTick m).1.clock, .slice bN bNn bNc, .slice bS bSn bSc], .bool (Sw.mktTick m).2]) ∧ OwM τ w' w.heap.size bL bLc bLn bP bPc bPn bD bDc bDn bN bNc bNn bS bSc bSn (Sw.mktTick m).1 ∧ Ex w w' := by
  cases g1 : Sw.mktOk m
  case false =>
    have e : Sw.mktTick m = (⟨[], [], [], 0, [], []⟩, false) := by simp [Sw.mktTick, g1, Sw.mktZ]
    have He := Lib.hid e; clear e
    go_enter Try.func42, Try.ntmps42
    go_wp2_with (first | (go_at_call 46; apply Calls.mono; apply iMktOk_c; ((first | (apply RM.at0; assumption) | (apply OwM.rm0; assumption)); exact kf_); rintro E w1 ⟨rfl, hb⟩; have hst := xr hb; (try simp only [zA, zC, zD, zN] at hst); obtain ⟨hc, hf, hz⟩ := hst))
    refine bodyPost_ret (v := .tuple #[.agg #[.slice none 0 0, .slice none 0 0, .slice none 0 0, .int .i64 0, .slice none 0 0, .slice none 0 0], .bool false]) (by simp [results, Try.results42, go_sem, *]) rfl ?_
    refine ⟨_, _, _, _, _, _, _, _, _, _, _, _, _, _, _, fun _ => 0, by rw [He.out], ?_, ext_⟩
    rw [He.out]
    exact ⟨OwT.nil .., OwT.nil .., OwT.nil .., OwT.nil .., OwT.nil ..⟩
  have hok := (Sw.mktOk_iff.1 g1)
  obtain ⟨rows, hok⟩ := hok
  have hck := hok.clk
  obtain ⟨ck0, ck1⟩ := hck
  clear hok
  by_cases g2 : m.clock = 99999
  · have g2' : (m.clock == 99999) = true := by simp [g2]
    have e : Sw.mktTick m = (m, false) := by simp [Sw.mktTick, g1, g2]
    have He := Lib.hid e; clear e
    have HC := Lib.hid g2; clear g2
    go_enter Try.func42, Try.ntmps42
    go_wp2_with (first | (go_at_call 46; apply Calls.mono; apply iMktOk_c; ((first | (apply RM.at0; assumption) | (apply OwM.rm0; assumption)); exact kf_); rintro E w1 ⟨rfl, hb⟩; have hst := xr hb; (try simp only [zA, zC, zD, zN] at hst); obtain ⟨hc, hf, hz⟩ := hst) | (go_at_call 100; apply Calls.mono; apply iMktClone_c; ((first | (apply RM.at0; assumption) | (apply OwM.rm0; assumption)); exact kf_); (first | assumption | omega); rintro E w1 ⟨bL, bLc, bLn, bP, bPc, bPn, bD, bDc, bDn, bN, bNc, bNn, bS, bSc, bSn, τ, rfl, ho, hb⟩; have hst := xr hb; (try simp only [zA, zC, zD, zN] at hst); obtain ⟨hc, hf, hz⟩ := hst))
    apply Calls.mono
    apply (iTickEnd_c (t := m.clock) (aL := bL) (aLc := bLc) (aLn := bLn) (aP := bP) (aPc := bPc) (aPn := bPn) (aD := bD) (aDc := bDc) (aDn := bDn) (aN := bN) (aNc := bNc) (aNn := bNn) (aS := bS) (aSc := bSc) (aSn := bSn))
    · exact ⟨by simp, by simp [go_sem], by simp [go_sem], by simp [go_sem], by simp [go_sem], by simp [go_sem], by simp [go_sem], fun i => by simp [go_sem]⟩
    · exact HC.out
    rintro E w3 ⟨rfl, hb⟩
    have hst := xr hb; (try simp only [zA, zC, zD, zN] at hst); obtain ⟨hc, hf, hz⟩ := hst
    go_wp2
    refine bodyPost_ret (v := .tuple #[.agg #[.slice bL bLn bLc, .slice bP bPn bPc, .slice bD bDn bDc, .int .i64 m.clock, .slice bN bNn bNc, .slice bS bSn bSc], .bool false]) (by simp [results, Try.results42, go_sem, *]) rfl ?_
    refine ⟨_, _, _, _, _, _, _, _, _, _, _, _, _, _, _, τ, by rw [He.out], ?_, ext_⟩
    rw [He.out]
    exact OwM.less (ho.keepF (by (exact kf_))) (by exact sz_)
  · have g2' : (m.clock == 99999) = false := by simp [g2]
    have e : Sw.mktTick m = (Sw.tick m, true) := by simp [Sw.mktTick, g1, g2]
    have He := Lib.hid e; clear e
    have hck : m.clock < 99999 := by omega
    clear g2
    have l3 := Lib.hid hm.deals.1
    have l2 := Lib.hid hm.purses.1
    go_enter Try.func42, Try.ntmps42
    go_wp2_with (first | (go_at_call 46; apply Calls.mono; apply iMktOk_c; ((first | (apply RM.at0; assumption) | (apply OwM.rm0; assumption)); exact kf_); rintro E w1 ⟨rfl, hb⟩; have hst := xr hb; (try simp only [zA, zC, zD, zN] at hst); obtain ⟨hc, hf, hz⟩ := hst) | (go_at_call 100; apply Calls.mono; apply iMktClone_c; ((first | (apply RM.at0; assumption) | (apply OwM.rm0; assumption)); exact kf_); (first | assumption | omega); rintro E w1 ⟨bL, bLc, bLn, bP, bPc, bPn, bD, bDc, bDn, bN, bNc, bNn, bS, bSc, bSn, τ, rfl, ho, hb⟩; have hst := xr hb; (try simp only [zA, zC, zD, zN] at hst); obtain ⟨hc, hf, hz⟩ := hst))
    apply Calls.mono
    have hgl := ho.glueL (τ' := fun _ => 0) (Nat.le_refl w1.heap.size)
    apply (iTick_c (n := 6) (m := m) (τ := glue τ w1.heap.size (fun _ => 0)) (aL := bL) (aLc := bLc) (aLn := bLn) (aP := bP) (aPc := bPc) (aPn := bPn) (aD := bD) (aDc := bDc) (aDn := bDn) (aN := bN) (aNc := bNc) (aNn := bNn) (aS := bS) (aSc := bSc) (aSn := bSn))
    · exact ⟨by simp, by simp [go_sem], by simp [go_sem], by simp [go_sem], by simp [go_sem], by simp [go_sem], by simp [go_sem], fun i => by simp [go_sem]⟩
    · exact lbc_
    · exact hgl.keepF (by (exact kf_))
    · unfold glue; rw [if_neg (Nat.lt_irrefl _)]
    · exact ck0
    · exact hck
    · have := ho.deals.ow.1; have := l3.out; omega
    · have := ho.purses.ow.1; have := l2.out; omega
    · exact sz_
    rintro E w3 ⟨A3, c3, τ3, rfl, hA3, hL3, ho3, hτ3, hout3, hb3⟩
    have hex : Ex w w3 := Ch.trans' (show Ex w _ from ext_) hb3 (fun i hi h => h.elim (fun h => absurd h (by (first | omega | (simp only [zA, zC, zD, zN] at *; omega) | (simp only [zA, zC, zD, zN]; omega)))) (fun h => absurd h.1 (by (first | omega | (simp only [zA, zC, zD, zN] at *; omega) | (simp only [zA, zC, zD, zN]; omega)))))
    have hlow : ∀ b, b < w.heap.size + 1 + 1 → w3.heap[b]? = w1.heap[b]? := fun b hb => (hb3.block b (by exact sz_) (fun h => h.elim (fun h => absurd h (by (first | omega | (simp only [zA, zC, zD, zN] at *; omega) | (simp only [zA, zC, zD, zN]; omega)))) (fun h => absurd h.1 (by (first | omega | (simp only [zA, zC, zD, zN] at *; omega) | (simp only [zA, zC, zD, zN]; omega)))))).trans (Below.heap_alloc _ _ _ (by exact sz_))
    obtain ⟨hc3, hf3⟩ := low_rules hlow
    obtain ⟨k0, k1, k2, k3, k4, k5, k6, kf⟩ := hA3
    simp only [Nat.zero_add] at k1 k2 k3 k4 k5 k6
    clear hb3 hτ3 hout3 hlow
    go_wp2
    refine bodyPost_ret (v := .tuple #[.agg #[.slice bL bLn bLc, .slice A3 bPn c3, .slice bD bDn bDc, .int .i64 (m.clock + 1), .slice bN bNn bNc, .slice bS bSn bSc], .bool true]) (by simp [results, Try.results42, go_sem, *]) rfl ?_
    refine ⟨_, _, _, _, _, _, _, _, _, _, _, _, _, _, _, τ3, by rw [He.out]; rfl, ?_, ext_⟩
    rw [He.out]
    exact OwM.less (ho3.keepF (by (exact kf_))) (by exact sz_)
end Go.Proofs.Ytgceeggfdomdjaa

namespace Go.Proofs.Ytgceeggfdomdjaa
set_option maxRecDepth 100000
set_option linter.unusedSimpArgs false
set_option linter.unusedVariables false
open Go.RowKit Go
set_option maxHeartbeats 4000000

theorem MOk_len {m : Sw.Mkt} {rows : List Sw.Row} (h : Sw.MOk m rows) : m.log.length ≤ 40 ∧ m.purses.length = 5 ∧ m.deals.length ≤ 8 ∧ m.nums.length = 5 ∧ m.said.length = 5 :=
  ⟨(Sw.ownFold_some.1 h.fold).1, (Sw.monOk_iff.1 h.mon).1, h.dlen, h.nlen, h.slen⟩
theorem iMktDo_c (aL : Option Addr) (aLc aLn : Nat) (aP : Option Addr) (aPc aPn : Nat) (aD : Option Addr) (aDc aDn : Nat) (aN : Option Addr) (aNc aNn : Nat) (aS : Option Addr) (aSc aSn : Nat) (m : Sw.Mkt) (r : Sw.Req) (w : World) (hm : RM w 0 aL aLc aLn aP aPc aPn aD aDc aDn aN aNc aNn aS aSc aSn m) (hn : aLn + aPn + aDn + aNn + aSn ≤ 1048576) : Calls Try.prog 52 #[.agg #[.slice aL aLn aLc, .slice aP aPn aPc, .slice aD aDn aDc, .int .i64 m.clock, .slice aN aNn aNc, .slice aS aSn aSc], .agg #[.int .i64 r.user, .int .i64 r.n, .int .i64 r.kind, .int .i64 r.ticket, .int .i64 r.who, .int .i64 r.price]] w fun E w' => ∃ bL bLc bLn bP bPc bPn bD bDc bDn bN bNc bNn bS bSc bSn τ, E = .returned (.tuple #[.agg #[.slice bL bLn bLc, .slice bP bPn bPc, .slice bD bDn bDc, .int .i64 (Sw.mktDo m r).1.clock, .slice bN bNn bNc, .slice bS bSn bSc], .int .i64 (Sw.mktDo m r).2]) ∧ OwM τ w' w.heap.size bL bLc bLn bP bPc bPn bD bDc bDn bN bNc bNn bS bSc bSn (Sw.mktDo m r).1 ∧ Ex w w' := by
  cases g1 : Sw.mktOk m
  case false =>
    have e : Sw.mktDo m r = (⟨[], [], [], 0, [], []⟩, 0) := by simp [Sw.mktDo, g1, Sw.mktZ]
    have He := Lib.hid e; clear e
    go_enter Try.func52, Try.ntmps52
    go_wp2_with (first | (go_at_call 46; apply Calls.mono; apply iMktOk_c; ((first | (apply RM.at0; assumption) | (apply OwM.rm0; assumption)); exact kf_); rintro E w1 ⟨rfl, hb⟩; have hst := xr hb; (try simp only [zA, zC, zD, zN] at hst); obtain ⟨hc, hf, hz⟩ := hst))
    refine bodyPost_ret (v := .tuple #[.agg #[.slice none 0 0, .slice none 0 0, .slice none 0 0, .int .i64 0, .slice none 0 0, .slice none 0 0], .int .i64 0]) (by simp [results, Try.results52, go_sem, *]) rfl ?_
    refine ⟨_, _, _, _, _, _, _, _, _, _, _, _, _, _, _, fun _ => 0, by rw [He.out], ?_, ext_⟩
    rw [He.out]
    exact ⟨OwT.nil .., OwT.nil .., OwT.nil .., OwT.nil .., OwT.nil ..⟩
  cases g2 : Sw.reqOk r
  case false =>
    have e : Sw.mktDo m r = (⟨[], [], [], 0, [], []⟩, 0) := by simp [Sw.mktDo, g1, g2, Sw.mktZ]
    have He := Lib.hid e; clear e
    obtain ⟨ru, rn, rk, rt, rh, rp⟩ := r
    go_enter Try.func52, Try.ntmps52
    go_wp2_with (first | (go_at_call 46; apply Calls.mono; apply iMktOk_c; ((first | (apply RM.at0; assumption) | (apply OwM.rm0; assumption)); exact kf_); rintro E w1 ⟨rfl, hb⟩; have hst := xr hb; (try simp only [zA, zC, zD, zN] at hst); obtain ⟨hc, hf, hz⟩ := hst) | (go_at_call 91; apply Calls.mono; apply (iReqOk_c ⟨ru, rn, rk, rt, rh, rp⟩); rintro E w3 ⟨rfl, hb⟩; rw [g2]; have hst := xr hb; (try simp only [zA, zC, zD, zN] at hst); obtain ⟨hc, hf, hz⟩ := hst))
    refine bodyPost_ret (v := .tuple #[.agg #[.slice none 0 0, .slice none 0 0, .slice none 0 0, .int .i64 0, .slice none 0 0, .slice none 0 0], .int .i64 0]) (by simp [results, Try.results52, go_sem, *]) rfl ?_
    refine ⟨_, _, _, _, _, _, _, _, _, _, _, _, _, _, _, fun _ => 0, by rw [He.out], ?_, ext_⟩
    rw [He.out]
    exact ⟨OwT.nil .., OwT.nil .., OwT.nil .., OwT.nil .., OwT.nil ..⟩
  have hok := (Sw.mktOk_iff.1 g1)
  obtain ⟨rows, hok⟩ := hok
  have e : Sw.mktDo m r = Sw.doIt m r := by simp [Sw.mktDo, g1, g2]
  have He := Lib.hid e; clear e
  have HK := Lib.hid hok
  have HR := Lib.hid g2
  clear hok
  have hk2 := Sw.doIt_ok HK.out HR.out
  obtain ⟨rows2, hk2⟩ := hk2
  have HLn := Lib.hid (MOk_len hk2)
  clear hk2
  obtain ⟨ru, rn, rk, rt, rh, rp⟩ := r
  go_enter Try.func52, Try.ntmps52
  go_wp2_with (first | (go_at_call 46; apply Calls.mono; apply iMktOk_c; ((first | (apply RM.at0; assumption) | (apply OwM.rm0; assumption)); exact kf_); rintro E w1 ⟨rfl, hb⟩; have hst := xr hb; (try simp only [zA, zC, zD, zN] at hst); obtain ⟨hc, hf, hz⟩ := hst) | (go_at_call 91; apply Calls.mono; apply (iReqOk_c ⟨ru, rn, rk, rt, rh, rp⟩); rintro E w3 ⟨rfl, hb⟩; rw [g2]; have hst := xr hb; (try simp only [zA, zC, zD, zN] at hst); obtain ⟨hc, hf, hz⟩ := hst) | (go_at_call 100; apply Calls.mono; apply iMktClone_c; ((first | (apply RM.at0; assumption) | (apply OwM.rm0; assumption)); exact kf_); (first | assumption | omega); rintro E w1 ⟨bL, bLc, bLn, bP, bPc, bPn, bD, bDc, bDn, bN, bNc, bNn, bS, bSc, bSn, τ, rfl, ho, hb⟩; have hst := xr hb; (try simp only [zA, zC, zD, zN] at hst); obtain ⟨hc, hf, hz⟩ := hst))
  have hWc : Ex w (w1.alloc (.cells #[.slice bL bLn bLc, .slice bP bPn bPc, .slice bD bDn bDc, .int .i64 m.clock, .slice bN bNn bNc, .slice bS bSn bSc] 53)) := ext_
  have hz3 : w.heap.size + 3 ≤ w3.heap.size := sz_
  have hz1 : w3.heap.size ≤ w1.heap.size := sz_
  have hS : MS w1.heap.size 0 6 w3.heap.size (glue τ w1.heap.size (fun _ => 0)) (w1.alloc (.cells #[.slice bL bLn bLc, .slice bP bPn bPc, .slice bD bDn bDc, .int .i64 m.clock, .slice bN bNn bNc, .slice bS bSn bSc] 53)) bL bLc bLn bP bPc bPn bD bDc bDn bN bNc bNn bS bSc bSn m (glue τ w1.heap.size (fun _ => 0)) (w1.alloc (.cells #[.slice bL bLn bLc, .slice bP bPn bPc, .slice bD bDn bDc, .int .i64 m.clock, .slice bN bNn bNc, .slice bS bSn bSc] 53)) :=
    MS.start ⟨sz_, by simp [go_sem], by simp [go_sem], by simp [go_sem], by simp [go_sem], by simp [go_sem], by simp [go_sem], fun i => by simp [go_sem]⟩ (Lb.new rfl rfl) ((ho.glueL (Nat.le_refl _)).keepF kf_) (glue0 (Nat.le_refl _)) sz_
  apply Calls.mono
  apply (iDo_c hS ⟨ru, rn, rk, rt, rh, rp⟩ HK.out HR.out)
  rintro E w4 ⟨fL, fLc, fLn, fP, fPc, fPn, fD, fDc, fDn, fN, fNc, fNn, fS, fSc, fSn, τ4, rfl, hm4⟩
  have hS2 : ¬ SG w1.heap.size w3.heap.size (glue τ w1.heap.size (fun _ => 0)) (w.heap.size + 1 + 1) := by
    rintro (h1 | ⟨h1, _⟩)
    · omega
    · omega
  have hr1 := fun i : Nat => hm4.ch.cell (p := ⟨w.heap.size + 1 + 1, i, none⟩) sz_ hS2
  have hr2 := fun i : Nat => hm4.ch.frozen (p := ⟨w.heap.size + 1 + 1, i, none⟩) sz_ hS2
  have hex : Ex w w4 := Ch.trans' hWc hm4.ch (fun i hi h => by
    rcases h with h1 | ⟨h1, _⟩
    · have h1 : i = w1.heap.size := h1
      omega
    · omega)
  obtain ⟨j0, j1, j2, j3, j4, j5, j6, jf⟩ := hm4.at_
  simp only [Nat.zero_add] at j1 j2 j3 j4 j5 j6
  have ho4 := hm4.ow
  have hz4 := hm4.ch.size
  simp only [zA] at hz4
  have hsum : fLn + fPn + fDn + fNn + fSn ≤ 1048576 := by
    obtain ⟨q1, q2, q3, q4, q5⟩ := HLn.out
    have := ho4.log.ow.1; have := ho4.purses.ow.1; have := ho4.deals.ow.1; have := ho4.nums.ow.1; have := ho4.said.ow.1
    omega
  clear hm4 hS ho
  obtain ⟨x, hx⟩ : ∃ x, x = Sw.doIt m ⟨ru, rn, rk, rt, rh, rp⟩ := ⟨_, rfl⟩
  rw [← hx] at ho4 j4 ⊢
  have Hx := Lib.hid hx
  clear hx
  go_wp2_with (go_at_call 100; apply Calls.mono; apply iMktClone_c; (apply OwM.rm0 ho4; (exact kf_)); exact hsum; rintro E w5 ⟨dL, dLc, dLn, dP, dPc, dPn, dD, dDc, dDn, dN, dNc, dNn, dS, dSc, dSn, τ5, rfl, ho5, hb⟩; have hst := xr hb; (try simp only [zA, zC, zD, zN] at hst); obtain ⟨hc, hf, hz⟩ := hst)
  refine bodyPost_ret (v := .tuple #[.agg #[.slice dL dLn dLc, .slice dP dPn dPc, .slice dD dDn dDc, .int .i64 x.1.clock, .slice dN dNn dNc, .slice dS dSn dSc], .int .i64 x.2]) (by simp [results, Try.results52, go_sem, *]) rfl ?_
  refine ⟨_, _, _, _, _, _, _, _, _, _, _, _, _, _, _, τ5, by rw [He.out, ← Hx.out], ?_, ext_⟩
  rw [He.out, ← Hx.out]
  exact OwM.less (ho5.keepF (by (exact kf_))) (by exact sz_)
end Go.Proofs.Ytgceeggfdomdjaa

