/-
  Walk: the law ExactWldFold.
-/
import Derived.Test.YtdcjadgflenejaaPk44
import Derived.Test.YtdcjadgflenejaaPk45
import Derived.Test.YtdcjadgflenejaaPk46
import Derived.Test.YtdcjadgflenejaaPk13
namespace Go.Proofs.Ytdcjadgflenejaa
set_option maxRecDepth 100000
set_option linter.unusedSimpArgs false
set_option linter.unusedVariables false
open Go.RowKit Go
set_option maxHeartbeats 16000000

theorem fold_len (fs : List Int) (ls : List Sw.Req) : ((Sw.wldFold fs ls).getD Sw.mktZ).len ≤ 66 := by
  cases e : Sw.wldFold fs ls with
  | none => simp [Sw.mktZ, Sw.Mkt.len]
  | some x =>
    obtain ⟨rows, hok⟩ := Sw.mktOk_iff.1 (Sw.wldFold_ok e)
    obtain ⟨q1, q2, q3, q4, q5⟩ := MOk_len hok
    simp only [Option.getD_some, Sw.Mkt.len]
    omega
theorem exWldFold_c (A : Option Addr) (c n : Nat) (xs : List Int) (B : Option Addr) (d q : Nat) (ls : List Sw.Req) (w : World) (hxs : RI w 0 A c n xs) (hls : RQ w 0 B d q ls) : Calls Try.prog 3 #[.slice A n c, .slice B q d] w fun E w' => E = .returned (.bool true) ∧ Ex w w' := by
  have hbig : n ≤ 9223372036854775807 := by have := hxs.2.le; have := hxs.2.cap; unfold maxLen at this; omega
  have hbiq : q ≤ 9223372036854775807 := by have := hls.2.le; have := hls.2.cap; unfold maxLen at this; omega
  by_cases hm : n ≤ 1048576
  case neg =>
    go_enter Try.func3, Try.ntmps3
    go_wp2_with fail
    go_ret
    exact ⟨rfl, ext_⟩
  by_cases hq : q ≤ 1048576
  case neg =>
    go_enter Try.func3, Try.ntmps3
    go_wp2_with (go_at_call 4; apply Calls.mono; apply szLine_n; (apply Rs.at0 hls; (exact kf_)); omega; omega; omega; rintro E w' ⟨rfl, rfl⟩)
    go_ret
    exact ⟨rfl, ext_⟩
  have hv0 : decide ((1048576 : Int) - (q : Int) < 0) = false := by simp; omega
  obtain ⟨z, hz⟩ : ∃ z, z = (Sw.wldFold xs ls).getD Sw.mktZ := ⟨_, rfl⟩
  obtain ⟨v, hv⟩ : ∃ v, v = (Sw.wldFold xs ls).isSome := ⟨_, rfl⟩
  have hzl := fold_len xs ls
  rw [← hz] at hzl
  have HZL := Lib.hid hzl
  have HZ := Lib.hid hz
  have HV := Lib.hid hv
  have hvv : (v != v) = false := by simp
  have hvv2 : (v == v) = true := by simp
  clear hz hv hzl
  go_enter Try.func3, Try.ntmps3
  go_wp2_with (go_at_call 4; apply Calls.mono; apply szLine_y; (apply Rs.at0 hls; (exact kf_)); omega; omega; rintro E w' ⟨rfl, rfl⟩)
  apply Calls.mono
  apply toIntS_c
  · apply Rs.at0 hxs; (exact kf_)
  · omega
  rintro E w1 ⟨ga, rfl, hoa, hgea, hlta, hb⟩
  have hst := xr hb; (try simp only [zA, zC, zD, zN] at hst); obtain ⟨hc, hf, hz⟩ := hst
  go_wp2_with fail
  apply Calls.mono
  apply toWldLineS_c
  · apply Rs.at0 hls; (exact kf_)
  · omega
  rintro E w2 ⟨gb, rfl, hob, hgeb, hltb, hb⟩
  have hst := xr hb; (try simp only [zA, zC, zD, zN] at hst); obtain ⟨hc, hf, hz⟩ := hst
  go_wp2_with fail
  apply Calls.mono
  apply (sWldFold_c (fs := xs) (ls := ls))
  · apply Ow.rs0 hoa; (exact kf_)
  · apply Ow.rs0 hob; (exact kf_)
  rintro E w3 ⟨cL, cLc, cLn, cP, cPc, cPn, cD, cDc, cDn, cN, cNc, cNn, cS, cSc, cSn, rfl, hrc, hb⟩
  rw [← HZ.out] at hrc
  rw [← HZ.out, ← HV.out]
  have hst := xr hb; (try simp only [zA, zC, zD, zN] at hst); obtain ⟨hc, hf, hz⟩ := hst
  go_wp2_with fail
  apply Calls.mono
  apply toIntS_c
  · apply Rs.at0 hxs; (exact kf_)
  · omega
  rintro E w4 ⟨gx, rfl, hox, hgex, hltx, hb⟩
  (try simp only [zA, zC, zD, zN] at hgex)
  have hst := xr hb; (try simp only [zA, zC, zD, zN] at hst); obtain ⟨hc, hf, hz⟩ := hst
  go_wp2_with fail
  apply Calls.mono
  apply toWldLineS_c
  · apply Rs.at0 hls; (exact kf_)
  · omega
  rintro E w5 ⟨gy, rfl, hoy, hgey, hlty, hb⟩
  (try simp only [zA, zC, zD, zN] at hgey)
  have hst := xr hb; (try simp only [zA, zC, zD, zN] at hst); obtain ⟨hc, hf, hz⟩ := hst
  go_wp2_with fail
  apply Calls.mono
  apply (iWldFold_c (fs := xs) (ls := ls))
  · apply Ow.rs0 hox; (exact kf_)
  · apply Ow.rs0 hoy; (exact kf_)
  rintro E w6 ⟨eL, eLc, eLn, eP, ePc, ePn, eD, eDc, eDn, eN, eNc, eNn, eS, eSc, eSn, τe, rfl, hoe, hb⟩
  rw [← HZ.out] at hoe
  rw [← HZ.out, ← HV.out]
  have hst := xr hb; (try simp only [zA, zC, zD, zN] at hst); obtain ⟨hc, hf, hz⟩ := hst
  have hle := Lib.hid hoe.rm.len
  replace hoe := hoe.ranged (kR _ _)
  go_wp2_with fail
  apply Calls.mono
  apply (eqMktHouse_c (x := z) (y := z))
  · apply OwM.rm0 hoe; (exact kf_)
  · apply RM.at0 hrc; (exact kf_)
  rintro E w7 ⟨rfl, hb⟩
  rw [show decide (z = z) = true from decide_eq_true rfl]
  have hst := xr hb; (try simp only [zA, zC, zD, zN] at hst); obtain ⟨hc, hf, hz⟩ := hst
  go_wp2_with fail
  apply Calls.mono
  apply toIntS_c
  · apply Rs.at0 hxs; (exact kf_)
  · omega
  rintro E w8 ⟨gz, rfl, hoz, hgez, hltz, hb⟩
  have hst := xr hb; (try simp only [zA, zC, zD, zN] at hst); obtain ⟨hc, hf, hz⟩ := hst
  go_wp2_with fail
  apply Calls.mono
  apply (eqIntS_c (xs := xs) (ys := xs))
  · apply Ow.rs0 hox; (exact kf_)
  · apply Ow.rs0 hoz; (exact kf_)
  rintro E w9 ⟨rfl, hb⟩
  rw [show decide (xs = xs) = true from decide_eq_true rfl]
  have hst := xr hb; (try simp only [zA, zC, zD, zN] at hst); obtain ⟨hc, hf, hz⟩ := hst
  go_wp2_with fail
  apply Calls.mono
  apply toWldLineS_c
  · apply Rs.at0 hls; (exact kf_)
  · omega
  rintro E w10 ⟨gu, rfl, hou, hgeu, hltu, hb⟩
  have hst := xr hb; (try simp only [zA, zC, zD, zN] at hst); obtain ⟨hc, hf, hz⟩ := hst
  go_wp2_with fail
  apply Calls.mono
  apply (eqWldLineS_c (xs := ls) (ys := ls))
  · apply Ow.rs0 hoy; (exact kf_)
  · apply Ow.rs0 hou; (exact kf_)
  rintro E w11 ⟨rfl, hb⟩
  rw [show decide (ls = ls) = true from decide_eq_true rfl]
  have hst := xr hb; (try simp only [zA, zC, zD, zN] at hst); obtain ⟨hc, hf, hz⟩ := hst
  have kn1 : decide ((1 : Int) + (n : Int) + (q : Int) * 6 < 0) = false := by simp; omega
  have ke1 : decide ((1 : Int) + (eLn : Int) * 4 + ePn + (eDn : Int) * 5 + eNn + eSn < 0) = false := by simp; omega
  go_wp2_with fail
  apply Calls.mono
  apply (markIntS_c (lo := w3.heap.size + 1) (xs := xs))
  · exact (hox.keep kf_).less (by exact sz_)
  · decide
  · decide
  · omega
  rintro E w12 ⟨rfl, -, hmk⟩
  have hr := hmk.mono (T := RG2 (w3.heap.size + 1) w4.heap.size) (fun i _ hi => by obtain ⟨a, ha, e⟩ := hi; cases ha; rw [e]; exact ⟨hgex, hltx⟩)
  have bxA0 := RG2.rules hr (g := w3.heap.size) (.inl (by exact sz_)) (by exact sz_)
  have bxA1 := RG2.rules hr (g := w6.heap.size) (.inr (by exact sz_)) (by exact sz_)
  have kkA : KF w2.heap.size w3 w12 := KF.range hr kf_ (.inr (by exact sz_))
  have hoe12 := hoe.keepF (KF.range hr kf_ (.inl (by exact sz_)))
  have hoy12 := hoy.keep (KF.range hr kf_ (.inl (by exact sz_)))
  have hexA : Ex w w12 := Ch.trans' (show Ex w _ from ext_) hr (fun i hi h => absurd h.1 (by (first | omega | (simp only [zA, zC, zD, zN] at *; omega) | (simp only [zA, zC, zD, zN]; omega))))
  have hszA := hr.size
  (try simp only [zA, zC, zD, zN] at hszA)
  clear hr hmk
  go_wp2_with fail
  apply Calls.mono
  apply (markLine_c (lo := w4.heap.size) (zs := ls.flatMap Sw.Req.ints))
  · exact OwFl.of (hoy12.keep kf_) (fun _ => rfl) (fun _ => rfl)
  · omega
  · omega
  · omega
  rintro E w13 ⟨rfl, -, hmk⟩
  have hr := hmk.mono (T := RG2 w4.heap.size w5.heap.size) (fun i _ hi => by obtain ⟨a, ha, e⟩ := hi; cases ha; rw [e]; exact ⟨hgey, hlty⟩)
  have bxB0 := RG2.rules hr (g := w3.heap.size) (.inl (by exact sz_)) (by exact sz_)
  have bxB1 := RG2.rules hr (g := w6.heap.size) (.inr (by exact sz_)) (by exact sz_)
  have kkB : KF w2.heap.size w3 w13 := KF.range hr (kkA.trans kf_) (.inr (by exact sz_))
  have hoe13 := hoe12.keepF (KF.range hr kf_ (.inl (by exact sz_)))
  have hrc13 := hrc.keep kkB
  have hexB : Ex w w13 := Ch.trans' (show Ex w _ from ext_) hr (fun i hi h => absurd h.1 (by (first | omega | (simp only [zA, zC, zD, zN] at *; omega) | (simp only [zA, zC, zD, zN]; omega))))
  have hszB := hr.size
  (try simp only [zA, zC, zD, zN] at hszB)
  clear hr hmk
  go_wp2_with (go_at_call 9; apply Calls.mono; apply (eqMktHouse_c (x := z) (y := z)); (apply OwM.rm0 hoe13; (exact kf_)); (apply RM.at0 hrc13; (exact kf_)); rintro E w14 ⟨rfl, hb⟩; rw [show decide (z = z) = true from decide_eq_true rfl]; have hst := xr hb; (try simp only [zA, zC, zD, zN] at hst); obtain ⟨hc, hf, hz⟩ := hst)
  apply Calls.mono
  apply (markMkt_c (m := z) (τ := glue τe w6.heap.size (fun _ => 0)))
  · exact hoe13.keepF kf_
  · decide
  · decide
  · have := hle.out; have := HZL.out; omega
  rintro E w15 ⟨rfl, hmM, hmk⟩
  have hr := hmk.mono (fun i _ h => SM.range h)
  have bxC0 := RG2.rules hr (g := w3.heap.size) (.inl (by exact sz_)) (by exact sz_)
  have bxC1 := RG2.rules hr (g := w6.heap.size) (.inr (by exact sz_)) (by exact sz_)
  have kkC : KF w2.heap.size w3 w15 := KF.range hr (kkB.trans kf_) (.inr (by exact sz_))
  have hrc15 := hrc.keep kkC
  have hexC : Ex w w15 := Ch.trans' (show Ex w _ from ext_) hr (fun i hi h => absurd h.1 (by (first | omega | (simp only [zA, zC, zD, zN] at *; omega) | (simp only [zA, zC, zD, zN]; omega))))
  have hx15 : RI w15 0 A c n xs := hxs.at0 (kE hexC (kR _ _))
  have hl15 : RQ w15 0 B d q ls := hls.at0 (kE hexC (kR _ _))
  have hszC := hr.size
  (try simp only [zA, zC, zD, zN] at hszC)
  clear hr hmk
  go_wp2_with fail
  apply Calls.mono
  apply heldMkt_c
  · exact hmM.keep kf_
  · decide
  · decide
  · have := hle.out; have := HZL.out; omega
  rintro E w16 ⟨rfl, hb⟩
  have hst := xr hb; (try simp only [zA, zC, zD, zN] at hst); obtain ⟨hc, hf, hz⟩ := hst
  go_wp2_with fail
  apply Calls.mono
  apply toIntS_c
  · apply Rs.at0 hx15; (exact kf_)
  · omega
  rintro E w17 ⟨gp, rfl, hop, hgep, hltp, hb⟩
  have hst := xr hb; (try simp only [zA, zC, zD, zN] at hst); obtain ⟨hc, hf, hz⟩ := hst
  go_wp2_with fail
  apply Calls.mono
  apply toWldLineS_c
  · apply Rs.at0 hl15; (exact kf_)
  · omega
  rintro E w18 ⟨gr, rfl, hor, hger, hltr, hb⟩
  have hst := xr hb; (try simp only [zA, zC, zD, zN] at hst); obtain ⟨hc, hf, hz⟩ := hst
  go_wp2_with fail
  apply Calls.mono
  apply (iWldFold_c (fs := xs) (ls := ls))
  · apply Ow.rs0 hop; (exact kf_)
  · apply Ow.rs0 hor; (exact kf_)
  rintro E w19 ⟨jL, jLc, jLn, jP, jPc, jPn, jD, jDc, jDn, jN, jNc, jNn, jS, jSc, jSn, τj, rfl, hoj, hb⟩
  rw [← HZ.out] at hoj
  rw [← HZ.out, ← HV.out]
  have hst := xr hb; (try simp only [zA, zC, zD, zN] at hst); obtain ⟨hc, hf, hz⟩ := hst
  go_wp2_with fail
  apply Calls.mono
  apply (eqMktHouse_c (x := z) (y := z))
  · apply OwM.rm0 hoj; (exact kf_)
  · apply RM.at0 hrc15; (exact kf_)
  rintro E w20 ⟨rfl, hb⟩
  rw [show decide (z = z) = true from decide_eq_true rfl]
  have hst := xr hb; (try simp only [zA, zC, zD, zN] at hst); obtain ⟨hc, hf, hz⟩ := hst
  go_wp2_with fail
  apply Calls.mono
  apply heldMkt_c
  · exact hmM.keep kf_
  · decide
  · decide
  · have := hle.out; have := HZL.out; omega
  rintro E w21 ⟨rfl, hb⟩
  have hst := xr hb; (try simp only [zA, zC, zD, zN] at hst); obtain ⟨hc, hf, hz⟩ := hst
  go_wp2_with fail
  go_ret
  exact ⟨rfl, ext_⟩
end Go.Proofs.Ytdcjadgflenejaa

