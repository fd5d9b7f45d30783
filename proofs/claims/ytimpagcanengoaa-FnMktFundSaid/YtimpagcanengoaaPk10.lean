/-
  Texts joined: DoG, Mkt1, DoH.
-/
import Derived.Test.YtimpagcanengoaaPk5
import Derived.Test.YtimpagcanengoaaPk9
import Derived.Test.YtimpagcanengoaaPk6
namespace Go.Proofs.Ytimpagcanengoaa
set_option maxRecDepth 100000
set_option linter.unusedSimpArgs false
set_option linter.unusedVariables false
open Go.RowKit Go
set_option maxHeartbeats 2000000

theorem sSettle_c (aL : Option Addr) (aLc aLn : Nat) (aP : Option Addr) (aPc aPn : Nat) (aD : Option Addr) (aDc aDn : Nat) (aN : Option Addr) (aNc aNn : Nat) (aS : Option Addr) (aSc aSn : Nat) (m : Sw.Mkt) (ru rn rk : Int) (t : Nat) (rh rp : Int) (rows : List Sw.Row) (lo : Nat) (τ : Nat → Nat) (w : World) (hM : OwM τ w lo aL aLc aLn aP aPc aPn aD aDc aDn aN aNc aNn aS aSc aSn m) (hok : Sw.MOk m rows) (ht : t < 8) (hlo : lo ≤ w.heap.size) : Calls Try.prog 106 #[.agg #[.slice aL aLn aLc, .slice aP aPn aPc, .slice aD aDn aDc, .int .i64 m.clock, .slice aN aNn aNc, .slice aS aSn aSc], .agg #[.int .i64 ru, .int .i64 rn, .int .i64 rk, .int .i64 t, .int .i64 rh, .int .i64 rp]] w fun E w' => MktPost lo τ w w' E (Sw.settle m ⟨ru, rn, rk, t, rh, rp⟩ (Sw.dealAt m.deals t)) := by
  have hML := hM.log
  have hMD := hM.deals
  have hMP := hM.purses
  have hd8 : m.deals.length ≤ 8 := hok.dlen
  have hL40 : m.log.length ≤ 40 := (Sw.ownFold_some.1 hok.fold).1
  have l1 := hM.log.ow.1
  have l3 := hM.deals.ow.1
  have hp5 : aPn ≤ 4194304 := by have := hM.purses.ow.1; have := (Sw.monOk_iff.1 hok.mon).1; omega
  have i0 : (0 : Int) ≤ (t : Int) := by omega
  have i1 : (t : Int) < 8 := by omega
  cases h3 : Sw.dealAt m.deals t
  case none =>
    have e : Sw.settle m ⟨ru, rn, rk, t, rh, rp⟩ none = (m, 3) := rfl
    rw [e]
    have HD := Lib.hid (dealIx_none h3)
    clear e l3 h3 hok l1
    go_enter Try.func106, Try.ntmps106
    go_wp2_with (go_at_call 114; apply Calls.mono; apply sFind_c; (apply OwT.rs0 hMD; (exact kf_)); rintro E w' ⟨rfl, rfl⟩; rw [HD.out])
    refine bodyPost_ret (v := .tuple #[.agg #[.slice aL aLn aLc, .slice aP aPn aPc, .slice aD aDn aDc, .int .i64 m.clock, .slice aN aNn aNc, .slice aS aSn aSc], .int .i64 3]) (by simp [results, Try.results106, go_sem, *]) rfl ?_
    exact ⟨_, _, _, _, _, _, _, _, _, _, _, _, _, _, _, τ, rfl, hM.keepF kf_, fun _ _ => rfl, ext_⟩
  rename_i kd
  obtain ⟨d, hd, hdt⟩ := Sw.dealAt_some h3
  have hk : kd < aDn := by have := (List.getElem?_eq_some_iff.1 hd).1; omega
  have HD := Lib.hid (dealIx_some h3)
  have hgd := Sw.getD_of (z := Sw.dealZ) hd
  obtain ⟨gD, y, rfl, hloD, hltD, hy, d0, d1, d2, d3, d4, hfD⟩ := at_OD hM.deals.ow hk
  obtain rfl : y = d := Option.some.inj (hy.symm.trans hd)
  have hby := (Sw.dealOk_iff.1 (hok.deals.get hd)).2.2.2.2.2
  have hby0 : 0 ≤ y.buyer := by omega
  clear hok hby
  have k0 : (0 : Int) ≤ (kd : Int) := by omega
  have k1 : (kd : Int) < (aDn : Int) := by omega
  have k2 : ¬ (kd : Int) < 0 := by omega
  by_cases h4 : y.buyer = 0
  · have g4 : (y.buyer == 0) = true := by simpa using h4
    have e : Sw.settle m ⟨ru, rn, rk, t, rh, rp⟩ (some kd) = (m, 3) := by unfold Sw.settle; dsimp only; rw [hgd, if_pos (by simp [Sw.held, h4])]
    rw [e]
    clear e l3 h3 hd hdt hy hgd l1 h4
    go_enter Try.func106, Try.ntmps106
    go_wp2_with (go_at_call 114; apply Calls.mono; apply sFind_c; (apply OwT.rs0 hMD; (exact kf_)); rintro E w' ⟨rfl, rfl⟩; rw [HD.out])
    refine bodyPost_ret (v := .tuple #[.agg #[.slice aL aLn aLc, .slice aP aPn aPc, .slice (some ⟨gD, 0, none⟩) aDn aDc, .int .i64 m.clock, .slice aN aNn aNc, .slice aS aSn aSc], .int .i64 3]) (by simp [results, Try.results106, go_sem, *]) rfl ?_
    exact ⟨_, _, _, _, _, _, _, _, _, _, _, _, _, _, _, τ, rfl, hM.keepF kf_, fun _ _ => rfl, ext_⟩
  have g4 : (y.buyer == 0) = false := by simpa using h4
  have hh : ¬ Sw.held y = false := by simp [Sw.held]; omega
  by_cases h5 : y.seller = ru
  case neg =>
    have g5 : (y.seller != ru) = true := by simpa using h5
    have e : Sw.settle m ⟨ru, rn, rk, t, rh, rp⟩ (some kd) = (m, 2) := by unfold Sw.settle; dsimp only; rw [hgd, if_neg hh, if_pos h5]
    rw [e]
    clear e l3 h3 hd hdt hy hgd h5 hh l1
    go_enter Try.func106, Try.ntmps106
    go_wp2_with (go_at_call 114; apply Calls.mono; apply sFind_c; (apply OwT.rs0 hMD; (exact kf_)); rintro E w' ⟨rfl, rfl⟩; rw [HD.out])
    refine bodyPost_ret (v := .tuple #[.agg #[.slice aL aLn aLc, .slice aP aPn aPc, .slice (some ⟨gD, 0, none⟩) aDn aDc, .int .i64 m.clock, .slice aN aNn aNc, .slice aS aSn aSc], .int .i64 2]) (by simp [results, Try.results106, go_sem, *]) rfl ?_
    exact ⟨_, _, _, _, _, _, _, _, _, _, _, _, _, _, _, τ, rfl, hM.keepF kf_, fun _ _ => rfl, ext_⟩
  have g5 : (y.seller != ru) = false := by simpa using h5
  by_cases h6 : m.log.length = 40
  · have g6 : ((aLn : Int) == 40) = true := by simp; omega
    have e : Sw.settle m ⟨ru, rn, rk, t, rh, rp⟩ (some kd) = (m, 6) := by unfold Sw.settle; dsimp only; rw [hgd, if_neg hh, if_neg (by simpa using h5), if_pos h6]
    rw [e]
    clear e l3 h3 hd hdt hy hgd h5 hh l1 h6
    go_enter Try.func106, Try.ntmps106
    go_wp2_with (go_at_call 114; apply Calls.mono; apply sFind_c; (apply OwT.rs0 hMD; (exact kf_)); rintro E w' ⟨rfl, rfl⟩; rw [HD.out])
    refine bodyPost_ret (v := .tuple #[.agg #[.slice aL aLn aLc, .slice aP aPn aPc, .slice (some ⟨gD, 0, none⟩) aDn aDc, .int .i64 m.clock, .slice aN aNn aNc, .slice aS aSn aSc], .int .i64 6]) (by simp [results, Try.results106, go_sem, *]) rfl ?_
    exact ⟨_, _, _, _, _, _, _, _, _, _, _, _, _, _, _, τ, rfl, hM.keepF kf_, fun _ _ => rfl, ext_⟩
  have g6 : ((aLn : Int) == 40) = false := by simp; omega
  have e : Sw.settle m ⟨ru, rn, rk, t, rh, rp⟩ (some kd) = ({ m with purses := Sw.monTurn m.purses y.seller y.price, log := m.log ++ [⟨2, t, y.buyer, y.price⟩], deals := m.deals.eraseIdx kd }, 1) := by unfold Sw.settle; dsimp only; rw [hgd, if_neg hh, if_neg (by simpa using h5), if_neg h6]
  rw [e]
  have hl40 : aLn ≤ 40 := by omega
  have hn8 : aDn ≤ 4194304 := by omega
  have hT := Lib.hid hdt
  clear e l3 h3 hd hdt hy hgd h5 hh l1 h6
  go_enter Try.func106, Try.ntmps106
  go_wp2_with (first | (go_at_call 114; apply Calls.mono; apply sFind_c; (apply OwT.rs0 hMD; (exact kf_)); rintro E w' ⟨rfl, rfl⟩; rw [HD.out]) | (go_at_call 76; apply Calls.mono; apply sMonTurn_c; ((first | (apply Rs.at0; assumption) | (apply Ow.rs0; assumption) | (apply OwT.rs0; assumption)); exact kf_); (first | assumption | omega); rintro E w1 ⟨A', c', rfl, hoP, hb⟩; have hst := xr hb; (try simp only [zA, zC, zD, zN] at hst); obtain ⟨hc, hf, hz⟩ := hst) | (at_builtin; apply wpList_app (lo := lo) el_E one_E rfl rfl rfl rfl; (exact Ow.keep (hML.ow) kf_); (refine Rs.new [⟨2, y.ticket, y.buyer, y.price⟩] (by (first | rfl | (simp only [zA, zC, zD, zN]; done) | omega)) rfl rfl (fun _ => rfl) (by omega)); omega; (exact sz_); intro A1 c1 w2 ho1 hch1 hat1 hex1 hlow1; clear hex1; obtain ⟨hB0, hF0⟩ := Ch.atA_keep hch1 (g := w.heap.size) (by exact sz_) (Ow.apart (hML.ow) (by omega)); obtain ⟨hB1, hF1⟩ := Ch.atA_keep hch1 (g := w.heap.size + 1) (by exact sz_) (Ow.apart (hML.ow) (by omega)); obtain ⟨hB2, hF2⟩ := Ch.atA_keep hch1 (g := w.heap.size + 1 + 1) (by exact sz_) (Ow.apart (hML.ow) (by omega)); have hzA := hch1.size; (try simp only [zA, zC, zD, zN] at hzA)))
  rw [hT.out] at ho1
  have m1 := OwM.pursed ((hM.glueL (τ' := fun _ => 0) (Nat.le_refl _)).keepF kf_) hoP (Nat.le_refl _) sz_ (kE (by assumption) (kR _ _))
  have m2 := OwM.logged (m1.box (g0 := w.heap.size) (g1 := w.heap.size + 4) bx_ (tag1 tag0 sz_)) ho1 hch1 hat1
  have m3 := m2.box (w' := w2.setCell ⟨w.heap.size, 0, none⟩ (.slice A1 (aLn + 1) c1)) (g0 := w.heap.size) (g1 := w.heap.size + 4) bx_ (tag1 (tag1 tag0 sz_) sz_)
  have hS := Ch.trans' (show Ch (SM lo τ) w _ from ext_) hch1 (fun i _ h => hM.atL h)
  apply Calls.mono
  apply (sOut_c (k := kd))
  · exact m3.deals.rs0 (kR _ _)
  · exact hk
  · exact hn8
  rintro E w3 ⟨A3, c3, rfl, ho3, hb3⟩
  have hst := xr hb3
  (try simp only [zA, zC, zD, zN] at hst)
  obtain ⟨hc3, hf3, hz3⟩ := hst
  go_wp2_with fail
  refine bodyPost_ret (v := .tuple #[.agg #[.slice A1 (aLn + 1) c1, .slice A' aPn c', .slice A3 (aDn - 1) c3, .int .i64 m.clock, .slice aN aNn aNc, .slice aS aSn aSc], .int .i64 1]) (by simp [results, Try.results106, go_sem, *]) rfl ?_
  have m4 := OwM.dealt m3 ho3 (Nat.le_refl _) sz_ (kE hb3 (kR _ _))
  exact ⟨_, _, _, _, _, _, _, _, _, _, _, _, _, _, _, _, rfl, m4.box (g0 := w.heap.size) (g1 := w.heap.size + 4) bx_ (tag1 (tag1 (tag1 tag0 sz_) sz_) sz_), fun b hb => (if_pos sz_).trans ((if_pos sz_).trans ((if_pos sz_).trans (if_pos hb))), ext_⟩
end Go.Proofs.Ytimpagcanengoaa

namespace Go.Proofs.Ytimpagcanengoaa
set_option maxRecDepth 100000
set_option linter.unusedSimpArgs false
set_option linter.unusedVariables false
open Go.RowKit Go
set_option maxHeartbeats 8000000

theorem sMktOk_c (aL : Option Addr) (aLc aLn : Nat) (aP : Option Addr) (aPc aPn : Nat) (aD : Option Addr) (aDc aDn : Nat) (aN : Option Addr) (aNc aNn : Nat) (aS : Option Addr) (aSc aSn : Nat) (m : Sw.Mkt) (w : World) (hm : RM w 0 aL aLc aLn aP aPc aPn aD aDc aDn aN aNc aNn aS aSc aSn m) : Calls Try.prog 21 #[.agg #[.slice aL aLn aLc, .slice aP aPn aPc, .slice aD aDn aDc, .int .i64 m.clock, .slice aN aNn aNc, .slice aS aSn aSc]] w fun E w' => E = .returned (.bool (Sw.mktOk m)) ∧ Ex w w' := by
  obtain ⟨m1, m2, m3, m4, m5⟩ := hm
  have hm' : RM w 0 aL aLc aLn aP aPc aPn aD aDc aDn aN aNc aNn aS aSc aSn m := ⟨m1, m2, m3, m4, m5⟩
  have b3 := Rs.big m3
  have b4 := Rs.big m4
  have b5 := Rs.big m5
  have l3 := Lib.hid m3.1
  have l4 := Lib.hid m4.1
  have l5 := Lib.hid m5.1
  have e := mktOk_parts m
  have He := Lib.hid e; clear e
  cases hfs : (Sw.ownFold m.log).isSome
  case false =>
    go_enter Try.func21, Try.ntmps21
    go_wp2_with (first | (go_at_call 49; apply Calls.mono; apply sOwnFold_c; ((first | (apply Rs.at0; assumption) | (apply Ow.rs0; assumption)); exact kf_); rintro E w1 ⟨A', c', n', rfl, hr, hb⟩; have hst := xr hb; (try simp only [zA, zC, zD, zN] at hst); obtain ⟨hc, hf, hz⟩ := hst))
    go_ret
    exact ⟨ret_b (by rw [He.out]; simp [mktGate, hfs]), ext_⟩
  cases g1 : Sw.monOk m.purses
  case false =>
    go_enter Try.func21, Try.ntmps21
    go_wp2_with (first | (go_at_call 49; apply Calls.mono; apply sOwnFold_c; ((first | (apply Rs.at0; assumption) | (apply Ow.rs0; assumption)); exact kf_); rintro E w1 ⟨A', c', n', rfl, hr, hb⟩; have hst := xr hb; (try simp only [zA, zC, zD, zN] at hst); obtain ⟨hc, hf, hz⟩ := hst) | (go_at_call 50; apply Calls.mono; apply sMonOk_c; ((first | (apply Rs.at0; assumption) | (apply Ow.rs0; assumption)); exact kf_); rintro E w' ⟨rfl, rfl⟩))
    go_ret
    exact ⟨ret_b (by rw [He.out]; simp [mktGate, g1]), ext_⟩
  by_cases g2 : aDn ≤ 8
  case neg =>
    go_enter Try.func21, Try.ntmps21
    go_wp2_with (first | (go_at_call 49; apply Calls.mono; apply sOwnFold_c; ((first | (apply Rs.at0; assumption) | (apply Ow.rs0; assumption)); exact kf_); rintro E w1 ⟨A', c', n', rfl, hr, hb⟩; have hst := xr hb; (try simp only [zA, zC, zD, zN] at hst); obtain ⟨hc, hf, hz⟩ := hst) | (go_at_call 50; apply Calls.mono; apply sMonOk_c; ((first | (apply Rs.at0; assumption) | (apply Ow.rs0; assumption)); exact kf_); rintro E w' ⟨rfl, rfl⟩))
    go_ret
    exact ⟨ret_b (by rw [He.out, mktGate, ← l3.out]; simp [g2]), ext_⟩
  cases g3 : Sw.inR m.clock 0 99999
  case false =>
    go_enter Try.func21, Try.ntmps21
    go_wp2_with (first | (go_at_call 49; apply Calls.mono; apply sOwnFold_c; ((first | (apply Rs.at0; assumption) | (apply Ow.rs0; assumption)); exact kf_); rintro E w1 ⟨A', c', n', rfl, hr, hb⟩; have hst := xr hb; (try simp only [zA, zC, zD, zN] at hst); obtain ⟨hc, hf, hz⟩ := hst) | (go_at_call 50; apply Calls.mono; apply sMonOk_c; ((first | (apply Rs.at0; assumption) | (apply Ow.rs0; assumption)); exact kf_); rintro E w' ⟨rfl, rfl⟩) | (go_at_call 51; refine (l1In_c _ _ _ _).mono ?_; rintro E w' ⟨rfl, rfl⟩))
    go_ret
    exact ⟨ret_b (by rw [He.out, mktGate, g3]; simp), ext_⟩
  by_cases g4 : aNn = 5
  case neg =>
    have q4 : ((aNn : Int) != 5) = true := by rw [bne_iff_ne]; omega
    go_enter Try.func21, Try.ntmps21
    go_wp2_with (first | (go_at_call 49; apply Calls.mono; apply sOwnFold_c; ((first | (apply Rs.at0; assumption) | (apply Ow.rs0; assumption)); exact kf_); rintro E w1 ⟨A', c', n', rfl, hr, hb⟩; have hst := xr hb; (try simp only [zA, zC, zD, zN] at hst); obtain ⟨hc, hf, hz⟩ := hst) | (go_at_call 50; apply Calls.mono; apply sMonOk_c; ((first | (apply Rs.at0; assumption) | (apply Ow.rs0; assumption)); exact kf_); rintro E w' ⟨rfl, rfl⟩) | (go_at_call 51; refine (l1In_c _ _ _ _).mono ?_; rintro E w' ⟨rfl, rfl⟩))
    go_ret
    exact ⟨ret_b (by rw [He.out, mktGate, ← l4.out]; simp [g4]), ext_⟩
  subst g4
  by_cases g5 : aSn = 5
  case neg =>
    have q5 : ((aSn : Int) != 5) = true := by rw [bne_iff_ne]; omega
    go_enter Try.func21, Try.ntmps21
    go_wp2_with (first | (go_at_call 49; apply Calls.mono; apply sOwnFold_c; ((first | (apply Rs.at0; assumption) | (apply Ow.rs0; assumption)); exact kf_); rintro E w1 ⟨A', c', n', rfl, hr, hb⟩; have hst := xr hb; (try simp only [zA, zC, zD, zN] at hst); obtain ⟨hc, hf, hz⟩ := hst) | (go_at_call 50; apply Calls.mono; apply sMonOk_c; ((first | (apply Rs.at0; assumption) | (apply Ow.rs0; assumption)); exact kf_); rintro E w' ⟨rfl, rfl⟩) | (go_at_call 51; refine (l1In_c _ _ _ _).mono ?_; rintro E w' ⟨rfl, rfl⟩))
    go_ret
    exact ⟨ret_b (by rw [He.out, mktGate, ← l5.out]; simp [g5]), ext_⟩
  subst g5
  have hgate : mktGate m = true := by simp [mktGate, hfs, g1, g3, ← l3.out, ← l4.out, ← l5.out, g2]
  obtain ⟨rows, hrows⟩ := Option.isSome_iff_exists.1 hfs
  have hro := Sw.ownFold_ok hrows
  have h8 := Sw.ownOk_len hro
  have hg : (Sw.ownFold m.log).getD [] = rows := by rw [hrows]; rfl
  have e2 := He.out
  rw [hgate, Sw.mktRows_of hrows, Bool.true_and] at e2
  have HE := Lib.hid e2
  have HG := Lib.hid hg
  have H8 := Lib.hid h8
  have HR := Lib.hid hrows
  have HO := Lib.hid hro
  obtain ⟨ck0, ck1⟩ := Sw.inR_iff.1 g3
  clear e2 hg h8 He hgate hrows hro
  go_enter Try.func21, Try.ntmps21
  go_wp2_with (first | (go_at_call 49; apply Calls.mono; apply sOwnFold_c; ((first | (apply Rs.at0; assumption) | (apply Ow.rs0; assumption)); exact kf_); rintro E w1 ⟨A1, c1, n1, rfl, ho1, hb⟩; rw [HG.out] at ho1; have hst := xr hb; (try simp only [zA, zC, zD] at hst); obtain ⟨hc, hf, hz⟩ := hst; obtain rfl : n1 = 8 := by rw [ho1.1, H8.out]) | (go_at_call 50; apply Calls.mono; apply sMonOk_c; ((first | (apply Rs.at0; assumption) | (apply Ow.rs0; assumption)); exact kf_); rintro E w' ⟨rfl, rfl⟩) | (go_at_call 51; refine (l1In_c _ _ _ _).mono ?_; rintro E w' ⟨rfl, rfl⟩))
  have hrr := ho1.rs
  go_loopw [5] (fun i wr => ∃ (k : Nat) (p : Int), k ≤ aDn ∧ i = .int .i64 k ∧ Ex w1 wr ∧ LastAt m.deals k p ∧ Sw.dealsOk m.clock rows (-1) m.deals = Sw.dealsOk m.clock rows p (m.deals.drop k)) (fun i _ => aDn - (intOf i).toNat)
  case atStart => exact ⟨0, -1, Nat.zero_le _, rfl, Ch.refl _ _, .inl ⟨rfl, rfl⟩, rfl⟩
  case round =>
    obtain ⟨k, p, hk, rfl, hb2, hp, hrel⟩ := hrel
    have hst := xr hb2
    obtain ⟨hc2, hf2, hz2⟩ := hst
    by_cases hlt : k < aDn
    · obtain ⟨g, off, y, rfl, hg0, hg, hd, hy, q0, q1, q2, q3, q4⟩ := at_D m3 hlt
      rw [hd, dealsOk_cons] at hrel
      have Hrel := Lib.hid hrel
      have Hy := Lib.hid hy
      clear hd hy hrel
      cases c1 : Sw.inR y.ticket 0 7
      case false =>
        have DB := dealOk_b (clock := m.clock) (d := y) HO.out rfl
        have DB := Lib.hid DB
        clear hp
        go_wp2_with fail
        go_quiet ((first | (go_at_call 51; exact Calls.quiet_same (l1In_c _ _ _ _)) | (go_at_call 52; exact Calls.quiet_same (sEntCap_c _ _))))
        go_wp2
        go_ret
        exact ⟨ret_b (by rw [HE.out, Hrel.out, DB.out, c1]; simp), ext_⟩
      obtain ⟨y0, y7⟩ := Sw.inR_iff.1 c1
      obtain ⟨t, ht⟩ := Int.eq_ofNat_of_zero_le y0
      have e0 : y.ticket.toNat = t := by omega
      have ht8 : t < 8 := by omega
      have y8 : y.ticket < 8 := by omega
      have HT := Lib.hid ht
      clear ht
      obtain ⟨gr, offr, r, hA1, hgr0, hgr, hdr, hyr, r0, r1, r2⟩ := at_R hrr ht8
      cases hA1
      have hrow : Sw.rowAt rows y.ticket = r := by simp [Sw.rowAt, e0, hyr]
      have DB := dealOk_b (clock := m.clock) HO.out hrow
      have DB := Lib.hid DB
      clear hdr hyr hrow
      obtain ⟨yt, ys, yp, yb, yd⟩ := y
      obtain ⟨rw_, rf, ru⟩ := r
      dsimp only at q0 q1 q2 q3 q4 r0 r1 r2 c1 y0 y7 y8 e0
      have hpp : (∃ j : Nat, ∃ yj : Sw.Deal, k = j + 1 ∧ p = yj.ticket ∧ m.deals[j]? = some yj ∧ yt ≤ p) ∨ p < yt := by
        rcases hp with ⟨rfl, rfl⟩ | ⟨j, yj, rfl, hj, rfl, hj0⟩
        · exact .inr (by omega)
        · by_cases h : yt ≤ yj.ticket
          · exact .inl ⟨j, yj, rfl, rfl, hj, h⟩
          · exact .inr (by omega)
      rcases hpp with ⟨j, yj, rfl, rfl, hj, hle⟩ | hpy
      · obtain ⟨g', off', yj', hA', _, _, _, hyj', p0, _⟩ := at_D m3 (show j < aDn by omega)
        cases hA'
        obtain rfl : yj' = yj := by rw [hj] at hyj'; exact (Option.some.inj hyj').symm
        clear hj hyj' hp
        have t1 : ((j : Int) + 1).toNat = j + 1 := by omega
        have t2 : IntKind.i64.wrap ((j : Int) + 1 - 1) = j := by rw [IntWalk.i64_in _ (by omega)]; omega
        have t3 : (0 : Int) ≤ (j : Int) + 1 := by omega
        have t4 : (j : Int) + 1 < (aDn : Int) := by omega
        have t5 : (j : Int) < (aDn : Int) := by omega
        have t6 : (0 : Int) < (j : Int) + 1 := by omega
        go_wp2_with fail
        go_quiet ((first | (go_at_call 51; exact Calls.quiet_same (l1In_c _ _ _ _)) | (go_at_call 52; exact Calls.quiet_same (sEntCap_c _ _))))
        go_wp2
        go_ret
        exact ⟨ret_b (by rw [HE.out, Hrel.out, show decide (yj'.ticket < yt) = false from by simp; omega]; simp), ext_⟩
      have hgd : k = 0 ∨ ∃ j : Nat, ∃ pj : Int, k = j + 1 ∧ w.cell? ⟨g, off + j * 5, none⟩ = some (.int .i64 pj) ∧ ¬ (yt ≤ pj) := by
        rcases hp with ⟨rfl, rfl⟩ | ⟨j, yj, rfl, hj, rfl, hj0⟩
        · exact .inl rfl
        · obtain ⟨g', off', yj', hA', _, _, _, hyj', p0, _⟩ := at_D m3 (show j < aDn by omega)
          cases hA'
          obtain rfl : yj' = yj := by rw [hj] at hyj'; exact (Option.some.inj hyj').symm
          exact .inr ⟨j, yj'.ticket, rfl, p0, by omega⟩
      clear hp
      have fin : ∀ b : Bool, Sw.dealOk m.clock rows ⟨yt, ys, yp, yb, yd⟩ = b → (b = false → false = Sw.mktOk m) ∧ (b = true → Sw.dealsOk m.clock rows (-1) m.deals = Sw.dealsOk m.clock rows yt (m.deals.drop (k + 1))) := by
        intro b hb
        refine ⟨fun h => ?_, fun h => ?_⟩
        · rw [HE.out, Hrel.out, hb, h]; simp
        · rw [Hrel.out, hb, h]; simp [hpy]
      have Fin := Lib.hid fin
      have Lst : LastAt m.deals (k + 1) yt := .inr ⟨k, _, rfl, Hy.out, rfl, y0⟩
      have Lst := Lib.hid Lst
      clear fin hpy Hrel
      rcases hgd with rfl | ⟨j, pj, rfl, p0, hpj⟩
      · simp only [Nat.zero_mul, Nat.add_zero] at q0 q1 q2 q3 q4
        
        cases c3 : decide (rw_ = ys)
        case false =>
          have c3' : (rw_ != ys) = true := by rw [bne_iff_ne]; exact of_decide_eq_false c3
          (go_wp2_with fail; go_quiet ((first | (go_at_call 51; exact Calls.quiet_same (l1In_c _ _ _ _)) | (go_at_call 52; exact Calls.quiet_same (sEntCap_c _ _)))); go_wp2; go_ret)
          exact ⟨ret_b ((Fin.out _ rfl).1 (by rw [DB.out]; simp [c3])), (by exact ext_)⟩
        have c3' : (rw_ != ys) = false := by rw [bne_eq_false_iff_eq]; exact of_decide_eq_true c3
        cases c4 : (ys == 0)
        case true =>
          (go_wp2_with fail; go_quiet ((first | (go_at_call 51; exact Calls.quiet_same (l1In_c _ _ _ _)) | (go_at_call 52; exact Calls.quiet_same (sEntCap_c _ _)))); go_wp2; go_ret)
          exact ⟨ret_b ((Fin.out _ rfl).1 (by rw [DB.out]; simp [(show ys = 0 by simpa using c4)])), (by exact ext_)⟩
        cases ru
        case true =>
          (go_wp2_with fail; go_quiet ((first | (go_at_call 51; exact Calls.quiet_same (l1In_c _ _ _ _)) | (go_at_call 52; exact Calls.quiet_same (sEntCap_c _ _)))); go_wp2; go_ret)
          exact ⟨ret_b ((Fin.out _ rfl).1 (by rw [DB.out]; simp [])), (by exact ext_)⟩
        cases c6 : Sw.inR yp 1 (Sw.entCap rf)
        case false =>
          (go_wp2_with fail; go_quiet ((first | (go_at_call 51; exact Calls.quiet_same (l1In_c _ _ _ _)) | (go_at_call 52; exact Calls.quiet_same (sEntCap_c _ _)))); go_wp2; go_ret)
          exact ⟨ret_b ((Fin.out _ rfl).1 (by rw [DB.out]; simp [c6])), (by exact ext_)⟩
        have c4' : ys ≠ 0 := by simpa using c4
        have C4 := Lib.hid c4'
        clear c4'
        by_cases b0 : yb = 0
        · have b1 : (yb == 0) = true := by simp [b0]
          have b2 : (yb != 0) = false := by simp [b0]
          have B0 := Lib.hid b0
          clear b0
          by_cases d0 : yd = 0
          · have d1 : (yd != 0) = false := by simp [d0]
            have D0 := Lib.hid d0
            clear d0
            (go_wp2_with fail; go_quiet ((first | (go_at_call 51; exact Calls.quiet_same (l1In_c _ _ _ _)) | (go_at_call 52; exact Calls.quiet_same (sEntCap_c _ _)))); go_wp2_with (first | (go_at_call 51; refine (l1In_c _ _ _ _).mono ?_; rintro E w' ⟨rfl, rfl⟩)))
            exact ⟨⟨0 + 1, yt, by omega, by go_num, (by exact ext_), Lst.out, (Fin.out _ rfl).2 (by rw [DB.out]; simp [c3, c6, buyerOk, B0.out, D0.out, C4.out] <;> first | done | omega)⟩, by simp [intOf]; omega⟩
          · have d1 : (yd != 0) = true := by simp [d0]
            have D0 := Lib.hid d0
            clear d0
            (go_wp2_with fail; go_quiet ((first | (go_at_call 51; exact Calls.quiet_same (l1In_c _ _ _ _)) | (go_at_call 52; exact Calls.quiet_same (sEntCap_c _ _)))); go_wp2_with (first | (go_at_call 51; refine (l1In_c _ _ _ _).mono ?_; rintro E w' ⟨rfl, rfl⟩)))
            (go_ret; exact ⟨ret_b ((Fin.out _ rfl).1 (by rw [DB.out]; simp [buyerOk, B0.out, D0.out, C4.out])), (by exact ext_)⟩)
        have b1 : (yb == 0) = false := by simp [b0]
        have b2 : (yb != 0) = true := by simp [b0]
        have B0 := Lib.hid b0
        clear b0
        cases c7 : Sw.inR yb 1 5
        case false =>
          (go_wp2_with fail; go_quiet ((first | (go_at_call 51; exact Calls.quiet_same (l1In_c _ _ _ _)) | (go_at_call 52; exact Calls.quiet_same (sEntCap_c _ _)))); go_wp2_with (first | (go_at_call 51; refine (l1In_c _ _ _ _).mono ?_; rintro E w' ⟨rfl, rfl⟩)))
          (go_ret; exact ⟨ret_b ((Fin.out _ rfl).1 (by rw [DB.out]; simp [buyerOk, B0.out, c7])), (by exact ext_)⟩)
        by_cases d0 : yb = ys
        · have d1 : (yb == ys) = true := by simp [d0]
          have D0 := Lib.hid d0
          clear d0
          (go_wp2_with fail; go_quiet ((first | (go_at_call 51; exact Calls.quiet_same (l1In_c _ _ _ _)) | (go_at_call 52; exact Calls.quiet_same (sEntCap_c _ _)))); go_wp2_with (first | (go_at_call 51; refine (l1In_c _ _ _ _).mono ?_; rintro E w' ⟨rfl, rfl⟩)))
          (go_ret; exact ⟨ret_b ((Fin.out _ rfl).1 (by rw [DB.out]; simp [buyerOk, B0.out, D0.out, C4.out])), (by exact ext_)⟩)
        have d1 : (yb == ys) = false := by simp [d0]
        have D0 := Lib.hid d0
        clear d0
        cases c9 : Sw.inR yd m.clock (m.clock + 5)
        case false =>
          (go_wp2_with fail; go_quiet ((first | (go_at_call 51; exact Calls.quiet_same (l1In_c _ _ _ _)) | (go_at_call 52; exact Calls.quiet_same (sEntCap_c _ _)))); go_wp2_with (first | (go_at_call 51; refine (l1In_c _ _ _ _).mono ?_; rintro E w' ⟨rfl, rfl⟩)))
          (go_ret; exact ⟨ret_b ((Fin.out _ rfl).1 (by rw [DB.out]; simp [buyerOk, B0.out, c9])), (by exact ext_)⟩)
        (go_wp2_with fail; go_quiet ((first | (go_at_call 51; exact Calls.quiet_same (l1In_c _ _ _ _)) | (go_at_call 52; exact Calls.quiet_same (sEntCap_c _ _)))); go_wp2_with (first | (go_at_call 51; refine (l1In_c _ _ _ _).mono ?_; rintro E w' ⟨rfl, rfl⟩)))
        exact ⟨⟨0 + 1, yt, by omega, by go_num, (by exact ext_), Lst.out, (Fin.out _ rfl).2 (by rw [DB.out]; simp [c3, c6, buyerOk, B0.out, D0.out, C4.out, c7, c9] <;> first | done | omega)⟩, by simp [intOf]; omega⟩

      · have t1 : ((j : Int) + 1).toNat = j + 1 := by omega
        have t2 : IntKind.i64.wrap ((j : Int) + 1 - 1) = j := by rw [IntWalk.i64_in _ (by omega)]; omega
        have t3 : (0 : Int) ≤ (j : Int) + 1 := by omega
        have t4 : (j : Int) + 1 < (aDn : Int) := by omega
        have t5 : (j : Int) < (aDn : Int) := by omega
        have t6 : (0 : Int) < (j : Int) + 1 := by omega
        have t7 : decide (yt ≤ pj) = false := by simp; omega
        
        cases c3 : decide (rw_ = ys)
        case false =>
          have c3' : (rw_ != ys) = true := by rw [bne_iff_ne]; exact of_decide_eq_false c3
          (go_wp2_with fail; go_quiet ((first | (go_at_call 51; exact Calls.quiet_same (l1In_c _ _ _ _)) | (go_at_call 52; exact Calls.quiet_same (sEntCap_c _ _)))); go_wp2; go_ret)
          exact ⟨ret_b ((Fin.out _ rfl).1 (by rw [DB.out]; simp [c3])), (by exact ext_)⟩
        have c3' : (rw_ != ys) = false := by rw [bne_eq_false_iff_eq]; exact of_decide_eq_true c3
        cases c4 : (ys == 0)
        case true =>
          (go_wp2_with fail; go_quiet ((first | (go_at_call 51; exact Calls.quiet_same (l1In_c _ _ _ _)) | (go_at_call 52; exact Calls.quiet_same (sEntCap_c _ _)))); go_wp2; go_ret)
          exact ⟨ret_b ((Fin.out _ rfl).1 (by rw [DB.out]; simp [(show ys = 0 by simpa using c4)])), (by exact ext_)⟩
        cases ru
        case true =>
          (go_wp2_with fail; go_quiet ((first | (go_at_call 51; exact Calls.quiet_same (l1In_c _ _ _ _)) | (go_at_call 52; exact Calls.quiet_same (sEntCap_c _ _)))); go_wp2; go_ret)
          exact ⟨ret_b ((Fin.out _ rfl).1 (by rw [DB.out]; simp [])), (by exact ext_)⟩
        cases c6 : Sw.inR yp 1 (Sw.entCap rf)
        case false =>
          (go_wp2_with fail; go_quiet ((first | (go_at_call 51; exact Calls.quiet_same (l1In_c _ _ _ _)) | (go_at_call 52; exact Calls.quiet_same (sEntCap_c _ _)))); go_wp2; go_ret)
          exact ⟨ret_b ((Fin.out _ rfl).1 (by rw [DB.out]; simp [c6])), (by exact ext_)⟩
        have c4' : ys ≠ 0 := by simpa using c4
        have C4 := Lib.hid c4'
        clear c4'
        by_cases b0 : yb = 0
        · have b1 : (yb == 0) = true := by simp [b0]
          have b2 : (yb != 0) = false := by simp [b0]
          have B0 := Lib.hid b0
          clear b0
          by_cases d0 : yd = 0
          · have d1 : (yd != 0) = false := by simp [d0]
            have D0 := Lib.hid d0
            clear d0
            (go_wp2_with fail; go_quiet ((first | (go_at_call 51; exact Calls.quiet_same (l1In_c _ _ _ _)) | (go_at_call 52; exact Calls.quiet_same (sEntCap_c _ _)))); go_wp2_with (first | (go_at_call 51; refine (l1In_c _ _ _ _).mono ?_; rintro E w' ⟨rfl, rfl⟩)))
            exact ⟨⟨j + 1 + 1, yt, by omega, by go_num, (by exact ext_), Lst.out, (Fin.out _ rfl).2 (by rw [DB.out]; simp [c3, c6, buyerOk, B0.out, D0.out, C4.out] <;> first | done | omega)⟩, by simp [intOf]; omega⟩
          · have d1 : (yd != 0) = true := by simp [d0]
            have D0 := Lib.hid d0
            clear d0
            (go_wp2_with fail; go_quiet ((first | (go_at_call 51; exact Calls.quiet_same (l1In_c _ _ _ _)) | (go_at_call 52; exact Calls.quiet_same (sEntCap_c _ _)))); go_wp2_with (first | (go_at_call 51; refine (l1In_c _ _ _ _).mono ?_; rintro E w' ⟨rfl, rfl⟩)))
            (go_ret; exact ⟨ret_b ((Fin.out _ rfl).1 (by rw [DB.out]; simp [buyerOk, B0.out, D0.out, C4.out])), (by exact ext_)⟩)
        have b1 : (yb == 0) = false := by simp [b0]
        have b2 : (yb != 0) = true := by simp [b0]
        have B0 := Lib.hid b0
        clear b0
        cases c7 : Sw.inR yb 1 5
        case false =>
          (go_wp2_with fail; go_quiet ((first | (go_at_call 51; exact Calls.quiet_same (l1In_c _ _ _ _)) | (go_at_call 52; exact Calls.quiet_same (sEntCap_c _ _)))); go_wp2_with (first | (go_at_call 51; refine (l1In_c _ _ _ _).mono ?_; rintro E w' ⟨rfl, rfl⟩)))
          (go_ret; exact ⟨ret_b ((Fin.out _ rfl).1 (by rw [DB.out]; simp [buyerOk, B0.out, c7])), (by exact ext_)⟩)
        by_cases d0 : yb = ys
        · have d1 : (yb == ys) = true := by simp [d0]
          have D0 := Lib.hid d0
          clear d0
          (go_wp2_with fail; go_quiet ((first | (go_at_call 51; exact Calls.quiet_same (l1In_c _ _ _ _)) | (go_at_call 52; exact Calls.quiet_same (sEntCap_c _ _)))); go_wp2_with (first | (go_at_call 51; refine (l1In_c _ _ _ _).mono ?_; rintro E w' ⟨rfl, rfl⟩)))
          (go_ret; exact ⟨ret_b ((Fin.out _ rfl).1 (by rw [DB.out]; simp [buyerOk, B0.out, D0.out, C4.out])), (by exact ext_)⟩)
        have d1 : (yb == ys) = false := by simp [d0]
        have D0 := Lib.hid d0
        clear d0
        cases c9 : Sw.inR yd m.clock (m.clock + 5)
        case false =>
          (go_wp2_with fail; go_quiet ((first | (go_at_call 51; exact Calls.quiet_same (l1In_c _ _ _ _)) | (go_at_call 52; exact Calls.quiet_same (sEntCap_c _ _)))); go_wp2_with (first | (go_at_call 51; refine (l1In_c _ _ _ _).mono ?_; rintro E w' ⟨rfl, rfl⟩)))
          (go_ret; exact ⟨ret_b ((Fin.out _ rfl).1 (by rw [DB.out]; simp [buyerOk, B0.out, c9])), (by exact ext_)⟩)
        (go_wp2_with fail; go_quiet ((first | (go_at_call 51; exact Calls.quiet_same (l1In_c _ _ _ _)) | (go_at_call 52; exact Calls.quiet_same (sEntCap_c _ _)))); go_wp2_with (first | (go_at_call 51; refine (l1In_c _ _ _ _).mono ?_; rintro E w' ⟨rfl, rfl⟩)))
        exact ⟨⟨j + 1 + 1, yt, by omega, by go_num, (by exact ext_), Lst.out, (Fin.out _ rfl).2 (by rw [DB.out]; simp [c3, c6, buyerOk, B0.out, D0.out, C4.out, c7, c9] <;> first | done | omega)⟩, by simp [intOf]; omega⟩

    · rw [List.drop_of_length_le (by have := l3.out; omega)] at hrel
      have hdk : Sw.DOk m.clock rows m.deals := Sw.dealsOk_iff'.1 hrel
      have hS := Sw.monSum_bd g1
      have hH := Sw.heldSum_bd hdk.1
      rw [← Sw.heldOf_eq hdk (by have := l3.out; omega), ← l3.out] at hH
      have hsum : IntKind.i64.wrap (Sw.monSum m.purses + Sw.mktHeld m) = Sw.monSum m.purses + Sw.mktHeld m := by
        rw [IntWalk.i64_in _ (by unfold Sw.mktHeld; omega)]
      have Hsum := Lib.hid hsum
      have Hrel := Lib.hid hrel; clear hrel hp hdk hS hH hsum
      go_wp2_with fail
      go_loopw [7] (fun i wx => ∃ (k : Nat), k ≤ 5 ∧ i = .int .i64 k ∧ Ex w1 wx ∧ Sw.numsOk m.nums m.said = Sw.numsOk (m.nums.drop k) (m.said.drop k)) (fun i _ => 5 - (intOf i).toNat)
      case atStart => exact ⟨0, Nat.zero_le _, rfl, ext_, rfl⟩
      case round =>
        obtain ⟨k', hk', rfl, hb3, hrel⟩ := hrel
        have hst := xr hb3
        obtain ⟨hc3, hf3, hz3⟩ := hst
        by_cases hlt' : k' < 5
        · obtain ⟨gn, offn, a, rfl, hgn0, hgn, hdn, hyn, hcn⟩ := at_I m4 hlt'
          obtain ⟨gs, offs, b, rfl, hgs0, hgs, hds, hys, hcs⟩ := at_I m5 hlt'
          rw [numsOk_at hdn hds] at hrel
          have HN := Lib.hid hrel
          clear hdn hyn hds hys hrel
          cases c1 : Sw.inR a 0 99999
          case false =>
            go_wp2_with fail
            go_quiet ((first | (go_at_call 51; exact Calls.quiet_same (l1In_c _ _ _ _))))
            go_wp2
            go_ret
            exact ⟨ret_b (by rw [HE.out, HN.out, Sw.numOk, c1]; simp), ext_⟩
          cases c2 : Sw.inR b 0 6
          case false =>
            go_wp2_with fail
            go_quiet ((first | (go_at_call 51; exact Calls.quiet_same (l1In_c _ _ _ _))))
            go_wp2
            go_ret
            exact ⟨ret_b (by rw [HE.out, HN.out, Sw.numOk, c2]; simp), ext_⟩
          cases c3 : (a == 0)
          all_goals cases c4 : (b == 0)
          all_goals
            go_wp2_with fail
            go_quiet ((first | (go_at_call 51; exact Calls.quiet_same (l1In_c _ _ _ _))))
            go_wp2
            first
              | exact ⟨⟨k' + 1, by omega, by go_num, ext_, by rw [HN.out, Sw.numOk, c1, c2, ← beqI, ← beqI, c3, c4]; simp⟩, by simp [intOf]; omega⟩ | (go_ret; exact ⟨ret_b (by rw [HE.out, HN.out, Sw.numOk, ← beqI, ← beqI, c3, c4]; simp), ext_⟩)
        · have HN := Lib.hid hrel; clear hrel
          go_wp2_with fail
          (refine wp_name ?_; intro W0 hb0; have hst := xr hb0; (try simp only [zA, zC, zD, zN] at hst); obtain ⟨hc0, hf0, hz0⟩ := hst; go_region_held3 (fun w' => Held W0 w') ((first | with_reducible assumption | with_reducible exact Held.start _ | with_reducible exact Held.of (by assumption) | with_reducible exact Held.ex (by assumption) (by assumption) | ((repeat (first | with_reducible refine Held.set ?_ (by simp only [zA, zC, zD, zN]; omega) | with_reducible refine Held.alloc ?_ _ | with_reducible refine Held.drew ?_)); (first | with_reducible assumption | with_reducible exact Held.refl _ | with_reducible exact Held.of (by assumption) | with_reducible exact Held.ex (by assumption) (by assumption))) | exact Held.of (by exact ext_))) ((first | (go_at_call 53; apply Calls.mono; apply sMonSum_c; ((first | (apply Rs.at0; assumption) | (apply Ow.rs0; assumption)); exact kf_); rintro E w' ⟨rfl, rfl⟩) | (go_at_call 54; apply Calls.mono; apply sMktHeld_c; ((first | (apply RM.at0; assumption)); exact kf_); rintro E w1 ⟨rfl, hb⟩; have hst := xr hb; (try simp only [zA, zC, zD, zN] at hst); obtain ⟨hc, hf, hz⟩ := hst))); all_goals (have hb := And.right (by assumption : Held W0 _); have hst := xr hb; (try simp only [zA, zC, zD, zN] at hst); obtain ⟨hc, hf, hz⟩ := hst))
          go_wp2
          go_ret
          refine ⟨ret_b ?_, ext_⟩
          rw [HE.out, HN.out, Hrel.out, List.drop_of_length_le (by have := l4.out; omega), Hsum.out]
          simp [Sw.dealsOk, Sw.numsOk]
end Go.Proofs.Ytimpagcanengoaa

namespace Go.Proofs.Ytimpagcanengoaa
set_option maxRecDepth 100000
set_option linter.unusedSimpArgs false
set_option linter.unusedVariables false
open Go.RowKit Go
set_option maxHeartbeats 2000000

/-- The end of a function that has handed its market on: w0 its beginning, W where it hands on, w1 behind that, w' its end. -/
theorem kindEnd {τ τ1 : Nat → Nat} {w0 W w1 w' : World} {lo c : Nat} {bL : Option Addr} {bLc bLn : Nat} {bP : Option Addr} {bPc bPn : Nat} {bD : Option Addr} {bDc bDn : Nat} {bN : Option Addr} {bNc bNn : Nat} {bS : Option Addr} {bSc bSn : Nat} {x : Sw.Mkt × Int} (ho : OwM τ1 w1 lo bL bLc bLn bP bPc bPn bD bDc bDn bN bNc bNn bS bSc bSn x.1) (hτ : ∀ b, b < W.heap.size → τ1 b = glue τ w0.heap.size (fun _ => 0) b) (hb : Ch (SM lo (glue τ w0.heap.size (fun _ => 0))) W w1)
    (h0 : Ex w0 W) (hc : w0.heap.size + c ≤ W.heap.size) (hx : Ch (BX w0.heap.size (w0.heap.size + c)) w1 w') : MktPost lo τ w0 w' (.returned (.tuple #[.agg #[.slice bL bLn bLc, .slice bP bPn bPc, .slice bD bDn bDc, .int .i64 x.1.clock, .slice bN bNn bNc, .slice bS bSn bSc], .int .i64 x.2])) x := by
  refine ⟨_, _, _, _, _, _, _, _, _, _, _, _, _, _, _, τ1, rfl, ho.box hx (fun b h1 h2 => (hτ b (by omega)).trans (if_neg (by omega))), fun b hb => (hτ b (Nat.lt_of_lt_of_le hb h0.size)).trans (if_pos hb), ?_⟩
  refine (Ch.trans' (Ex.ch h0) hb (fun i hi h => ?_)).trans' hx (fun i hi h => absurd h.1 (by omega))
  have h1 := h.1; have h2 := h.2.1; have h3 := h.2.2
  rw [show glue τ w0.heap.size (fun _ => 0) i = τ i from if_pos hi] at h2 h3
  exact ⟨h1, h2, h3⟩
theorem sKind_c (aL : Option Addr) (aLc aLn : Nat) (aP : Option Addr) (aPc aPn : Nat) (aD : Option Addr) (aDc aDn : Nat) (aN : Option Addr) (aNc aNn : Nat) (aS : Option Addr) (aSc aSn : Nat) (m : Sw.Mkt) (r : Sw.Req) (rows : List Sw.Row) (lo : Nat) (τ : Nat → Nat) (w : World) (hM : OwM τ w lo aL aLc aLn aP aPc aPn aD aDc aDn aN aNc aNn aS aSc aSn m) (hok : Sw.MOk m rows) (hr : Sw.reqOk r = true) (hlo : lo ≤ w.heap.size) : Calls Try.prog 88 #[.agg #[.slice aL aLn aLc, .slice aP aPn aPc, .slice aD aDn aDc, .int .i64 m.clock, .slice aN aNn aNc, .slice aS aSn aSc], .agg #[.int .i64 r.user, .int .i64 r.n, .int .i64 r.kind, .int .i64 r.ticket, .int .i64 r.who, .int .i64 r.price]] w fun E w' => MktPost lo τ w w' E (Sw.effect m r) := by
  have hr' := Sw.reqOk_iff.1 hr
  have hrow := (rows8 hok).1
  obtain ⟨ru, rn, rk, rt, rh, rp⟩ := r
  dsimp only at hr'
  obtain ⟨t, rfl⟩ := Int.eq_ofNat_of_zero_le (show 0 ≤ rt by omega)
  have ht : t < 8 := by omega
  obtain ⟨⟨u1, u5⟩, -, hk, -, -⟩ := hr'
  have HR := Lib.hid hr
  have HW := Lib.hid hrow
  have HK := Lib.hid hok
  clear hr hrow hok
  have hG := hM.glueL (τ' := fun _ => 0) (Nat.le_refl _)
  have hM1 := hM.rm
  rcases (show rk = 1 ∨ rk = 2 ∨ rk = 3 ∨ rk = 4 ∨ rk = 5 ∨ rk = 6 by omega) with rfl | rfl | rfl | rfl | rfl | rfl
  · have e : Sw.effect m ⟨ru, rn, 1, t, rh, rp⟩ = Sw.issue m ⟨ru, rn, 1, t, rh, rp⟩ (Sw.rowAt rows t) := by unfold Sw.effect; rw [HW.out]; rfl
    rw [e]; clear e hk
    go_enter Try.func88, Try.ntmps88
    go_wp2_with fail
    apply Calls.mono
    apply (sIssue_c (m := m) (r := ⟨ru, rn, 1, t, rh, rp⟩) (rows := rows) (τ := glue τ w.heap.size (fun _ => 0)))
    · exact hG.keepF kf_
    · exact HK.out
    · exact HR.out
    · rfl
    · exact sz_
    rintro E w1 ⟨bL, bLc, bLn, bP, bPc, bPn, bD, bDc, bDn, bN, bNc, bNn, bS, bSc, bSn, τ1, rfl, ho, hτ, hb⟩
    obtain ⟨hB0, hF0⟩ := Ch.sm_keep hb (g := w.heap.size + 1 + 1) sz_ (if_neg (by omega))
    have hz := hb.size
    (try simp only [zA, zC, zD, zN] at hz)
    go_wp2_with fail
    refine bodyPost_ret (v := .tuple #[.agg #[.slice bL bLn bLc, .slice bP bPn bPc, .slice bD bDn bDc, .int .i64 (Sw.issue m ⟨ru, rn, 1, t, rh, rp⟩ (Sw.rowAt rows t)).1.clock, .slice bN bNn bNc, .slice bS bSn bSc], .int .i64 (Sw.issue m ⟨ru, rn, 1, t, rh, rp⟩ (Sw.rowAt rows t)).2]) (by simp [results, Try.results88, go_sem, *]) rfl ?_
    exact kindEnd (c := 3) ho hτ hb ext_ sz_ bx_
  · have e : Sw.effect m ⟨ru, rn, 2, t, rh, rp⟩ = Sw.offer m ⟨ru, rn, 2, t, rh, rp⟩ (Sw.rowAt rows t) (Sw.dealAt m.deals t) := by unfold Sw.effect; rw [HW.out]; rfl
    rw [e]; clear e hk
    go_enter Try.func88, Try.ntmps88
    go_wp2_with fail
    apply Calls.mono
    apply (sOffer_c (m := m) (rows := rows) (τ := glue τ w.heap.size (fun _ => 0)))
    · exact hG.keepF kf_
    · exact HK.out
    · exact ht
    · exact sz_
    rintro E w1 ⟨bL, bLc, bLn, bP, bPc, bPn, bD, bDc, bDn, bN, bNc, bNn, bS, bSc, bSn, τ1, rfl, ho, hτ, hb⟩
    obtain ⟨hB0, hF0⟩ := Ch.sm_keep hb (g := w.heap.size + 1 + 1) sz_ (if_neg (by omega))
    have hz := hb.size
    (try simp only [zA, zC, zD, zN] at hz)
    go_wp2_with fail
    refine bodyPost_ret (v := .tuple #[.agg #[.slice bL bLn bLc, .slice bP bPn bPc, .slice bD bDn bDc, .int .i64 (Sw.offer m ⟨ru, rn, 2, t, rh, rp⟩ (Sw.rowAt rows t) (Sw.dealAt m.deals t)).1.clock, .slice bN bNn bNc, .slice bS bSn bSc], .int .i64 (Sw.offer m ⟨ru, rn, 2, t, rh, rp⟩ (Sw.rowAt rows t) (Sw.dealAt m.deals t)).2]) (by simp [results, Try.results88, go_sem, *]) rfl ?_
    exact kindEnd (c := 3) ho hτ hb ext_ sz_ bx_
  · have e : Sw.effect m ⟨ru, rn, 3, t, rh, rp⟩ = Sw.dropIt m ⟨ru, rn, 3, t, rh, rp⟩ (Sw.rowAt rows t) (Sw.dealAt m.deals t) := by unfold Sw.effect; rw [HW.out]; rfl
    rw [e]; clear e hk
    go_enter Try.func88, Try.ntmps88
    go_wp2_with fail
    apply Calls.mono
    apply (sDrop_c (m := m) (rows := rows) (τ := glue τ w.heap.size (fun _ => 0)))
    · exact hG.keepF kf_
    · exact HK.out
    · exact ht
    · exact sz_
    rintro E w1 ⟨bL, bLc, bLn, bP, bPc, bPn, bD, bDc, bDn, bN, bNc, bNn, bS, bSc, bSn, τ1, rfl, ho, hτ, hb⟩
    obtain ⟨hB0, hF0⟩ := Ch.sm_keep hb (g := w.heap.size + 1 + 1) sz_ (if_neg (by omega))
    have hz := hb.size
    (try simp only [zA, zC, zD, zN] at hz)
    go_wp2_with fail
    refine bodyPost_ret (v := .tuple #[.agg #[.slice bL bLn bLc, .slice bP bPn bPc, .slice bD bDn bDc, .int .i64 (Sw.dropIt m ⟨ru, rn, 3, t, rh, rp⟩ (Sw.rowAt rows t) (Sw.dealAt m.deals t)).1.clock, .slice bN bNn bNc, .slice bS bSn bSc], .int .i64 (Sw.dropIt m ⟨ru, rn, 3, t, rh, rp⟩ (Sw.rowAt rows t) (Sw.dealAt m.deals t)).2]) (by simp [results, Try.results88, go_sem, *]) rfl ?_
    exact kindEnd (c := 3) ho hτ hb ext_ sz_ bx_
  · have e : Sw.effect m ⟨ru, rn, 4, t, rh, rp⟩ = Sw.fund m ⟨ru, rn, 4, t, rh, rp⟩ (Sw.dealAt m.deals t) := by unfold Sw.effect; rw [HW.out]; rfl
    rw [e]; clear e hk
    go_enter Try.func88, Try.ntmps88
    go_wp2_with fail
    apply Calls.mono
    apply (sFund_c (m := m) (rows := rows) (τ := glue τ w.heap.size (fun _ => 0)))
    · exact hG.keepF kf_
    · exact HK.out
    · exact ht
    · exact u1
    · exact u5
    · exact sz_
    rintro E w1 ⟨bL, bLc, bLn, bP, bPc, bPn, bD, bDc, bDn, bN, bNc, bNn, bS, bSc, bSn, τ1, rfl, ho, hτ, hb⟩
    obtain ⟨hB0, hF0⟩ := Ch.sm_keep hb (g := w.heap.size + 1 + 1) sz_ (if_neg (by omega))
    have hz := hb.size
    (try simp only [zA, zC, zD, zN] at hz)
    go_wp2_with fail
    refine bodyPost_ret (v := .tuple #[.agg #[.slice bL bLn bLc, .slice bP bPn bPc, .slice bD bDn bDc, .int .i64 (Sw.fund m ⟨ru, rn, 4, t, rh, rp⟩ (Sw.dealAt m.deals t)).1.clock, .slice bN bNn bNc, .slice bS bSn bSc], .int .i64 (Sw.fund m ⟨ru, rn, 4, t, rh, rp⟩ (Sw.dealAt m.deals t)).2]) (by simp [results, Try.results88, go_sem, *]) rfl ?_
    exact kindEnd (c := 3) ho hτ hb ext_ sz_ bx_
  · have e : Sw.effect m ⟨ru, rn, 5, t, rh, rp⟩ = Sw.settle m ⟨ru, rn, 5, t, rh, rp⟩ (Sw.dealAt m.deals t) := by unfold Sw.effect; rw [HW.out]; rfl
    rw [e]; clear e hk
    go_enter Try.func88, Try.ntmps88
    go_wp2_with fail
    apply Calls.mono
    apply (sSettle_c (m := m) (rows := rows) (τ := glue τ w.heap.size (fun _ => 0)))
    · exact hG.keepF kf_
    · exact HK.out
    · exact ht
    · exact sz_
    rintro E w1 ⟨bL, bLc, bLn, bP, bPc, bPn, bD, bDc, bDn, bN, bNc, bNn, bS, bSc, bSn, τ1, rfl, ho, hτ, hb⟩
    obtain ⟨hB0, hF0⟩ := Ch.sm_keep hb (g := w.heap.size + 1 + 1) sz_ (if_neg (by omega))
    have hz := hb.size
    (try simp only [zA, zC, zD, zN] at hz)
    go_wp2_with fail
    refine bodyPost_ret (v := .tuple #[.agg #[.slice bL bLn bLc, .slice bP bPn bPc, .slice bD bDn bDc, .int .i64 (Sw.settle m ⟨ru, rn, 5, t, rh, rp⟩ (Sw.dealAt m.deals t)).1.clock, .slice bN bNn bNc, .slice bS bSn bSc], .int .i64 (Sw.settle m ⟨ru, rn, 5, t, rh, rp⟩ (Sw.dealAt m.deals t)).2]) (by simp [results, Try.results88, go_sem, *]) rfl ?_
    exact kindEnd (c := 3) ho hτ hb ext_ sz_ bx_
  · have e : Sw.effect m ⟨ru, rn, 6, t, rh, rp⟩ = Sw.enter m ⟨ru, rn, 6, t, rh, rp⟩ (Sw.rowAt rows t) (Sw.dealAt m.deals t) := by unfold Sw.effect; rw [HW.out]; rfl
    rw [e]; clear e hk
    go_enter Try.func88, Try.ntmps88
    go_wp2_with fail
    apply Calls.mono
    apply (sEnter_c (m := m) (rows := rows) (τ := glue τ w.heap.size (fun _ => 0)))
    · exact hG.keepF kf_
    · exact HK.out
    · exact ht
    · exact u1
    · exact u5
    · exact sz_
    rintro E w1 ⟨bL, bLc, bLn, bP, bPc, bPn, bD, bDc, bDn, bN, bNc, bNn, bS, bSc, bSn, τ1, rfl, ho, hτ, hb⟩
    obtain ⟨hB0, hF0⟩ := Ch.sm_keep hb (g := w.heap.size + 1 + 1) sz_ (if_neg (by omega))
    have hz := hb.size
    (try simp only [zA, zC, zD, zN] at hz)
    go_wp2_with fail
    refine bodyPost_ret (v := .tuple #[.agg #[.slice bL bLn bLc, .slice bP bPn bPc, .slice bD bDn bDc, .int .i64 (Sw.enter m ⟨ru, rn, 6, t, rh, rp⟩ (Sw.rowAt rows t) (Sw.dealAt m.deals t)).1.clock, .slice bN bNn bNc, .slice bS bSn bSc], .int .i64 (Sw.enter m ⟨ru, rn, 6, t, rh, rp⟩ (Sw.rowAt rows t) (Sw.dealAt m.deals t)).2]) (by simp [results, Try.results88, go_sem, *]) rfl ?_
    exact kindEnd (c := 3) ho hτ hb ext_ sz_ bx_
end Go.Proofs.Ytimpagcanengoaa

