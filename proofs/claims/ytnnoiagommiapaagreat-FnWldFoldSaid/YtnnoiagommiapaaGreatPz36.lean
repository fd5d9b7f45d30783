/- Texts joined: PtrK, GShow, SwM. -/
import Derived.Test.YtnnoiagommiapaaGreatPz35
import Derived.Test.YtnnoiagommiapaaGreatPz28
import Derived.Test.YtnnoiagommiapaaGreatPz21
import Derived.Test.YtnnoiagommiapaaGreatPz7
import Derived.Test.YtnnoiagommiapaaGreatPz8
set_option maxRecDepth 100000
set_option linter.unusedSimpArgs false
set_option linter.unusedVariables false
namespace Go.Proofs.YtnnoiagommiapaaGreat
open Go.RowKit Go
set_option maxHeartbeats 4000000
theorem MOk_len {m : Sw.Mkt} {rows : List Sw.Row} (h : Sw.MOk m rows) : m.log.length ≤ 40 ∧ m.purses.length = 5 ∧ m.deals.length ≤ 8 ∧ m.nums.length = 5 ∧ m.said.length = 5 :=
 ⟨(Sw.ownFold_some.1 h.fold).1, (Sw.monOk_iff.1 h.mon).1, h.dlen, h.nlen, h.slen⟩
theorem iMktDo_c (aL : Option Addr) (aLc aLn : Nat) (aP : Option Addr) (aPc aPn : Nat) (aD : Option Addr) (aDc aDn : Nat) (aN : Option Addr) (aNc aNn : Nat) (aS : Option Addr) (aSc aSn : Nat) (m : Sw.Mkt) (r : Sw.Req) (w : World) (hm : RM w 0 aL aLc aLn aP aPc aPn aD aDc aDn aN aNc aNn aS aSc aSn m) (hn : aLn + aPn + aDn + aNn + aSn ≤ 1048576) : Calls Tryz.prog 46 #[.agg #[.slice aL aLn aLc, .slice aP aPn aPc, .slice aD aDn aDc, .int .i64 m.clock, .slice aN aNn aNc, .slice aS aSn aSc], .agg #[.int .i64 r.user, .int .i64 r.n, .int .i64 r.kind, .int .i64 r.ticket, .int .i64 r.who, .int .i64 r.price]] w fun E w' => ∃ bL bLc bLn bP bPc bPn bD bDc bDn bN bNc bNn bS bSc bSn τ, E = .returned (.tuple #[.agg #[.slice bL bLn bLc, .slice bP bPn bPc, .slice bD bDn bDc, .int .i64 (Sw.mktDo m r).1.clock, .slice bN bNn bNc, .slice bS bSn bSc], .int .i64 (Sw.mktDo m r).2]) ∧ OwM τ w' w.heap.size bL bLc bLn bP bPc bPn bD bDc bDn bN bNc bNn bS bSc bSn (Sw.mktDo m r).1 ∧ Ex w w' := by
 cases g1 : Sw.mktOk m
 case false =>
   have e : Sw.mktDo m r = (⟨[], [], [], 0, [], []⟩, 0) := by simp [Sw.mktDo, g1, Sw.mktZ]
   have He := Lib.hid e; clear e
   go_enter Tryz.func46, Tryz.ntmps46
   go_wp2_with (first | (go_at_call 44; apply Calls.mono; apply iMktOk_c; (exact rdM_); rintro E w1 ⟨rfl, hb⟩; obtain ⟨hc, hf, hz⟩ := xy hb))
   refine bodyPost_ret (v := .tuple #[.agg #[.slice none 0 0, .slice none 0 0, .slice none 0 0, .int .i64 0, .slice none 0 0, .slice none 0 0], .int .i64 0]) (by simp [results, Tryz.results46, go_sem, *]) rfl ?_
   refine ⟨_, _, _, _, _, _, _, _, _, _, _, _, _, _, _, fun _ => 0, by rw [He.out], ?_, ext_⟩
   rw [He.out]
   exact ⟨OwT.nil .., OwT.nil .., OwT.nil .., OwT.nil .., OwT.nil ..⟩
 cases g2 : Sw.reqOk r
 case false =>
   have e : Sw.mktDo m r = (⟨[], [], [], 0, [], []⟩, 0) := by simp [Sw.mktDo, g1, g2, Sw.mktZ]
   have He := Lib.hid e; clear e
   obtain ⟨ru, rn, rk, rt, rh, rp⟩ := r
   go_enter Tryz.func46, Tryz.ntmps46
   go_wp2_with (first | (go_at_call 44; apply Calls.mono; apply iMktOk_c; (exact rdM_); rintro E w1 ⟨rfl, hb⟩; obtain ⟨hc, hf, hz⟩ := xy hb) | (go_at_call 109; apply Calls.mono; apply (iReqOk_c ⟨ru, rn, rk, rt, rh, rp⟩); rintro E w3 ⟨rfl, hb⟩; rw [g2]; obtain ⟨hc, hf, hz⟩ := xy hb))
   refine bodyPost_ret (v := .tuple #[.agg #[.slice none 0 0, .slice none 0 0, .slice none 0 0, .int .i64 0, .slice none 0 0, .slice none 0 0], .int .i64 0]) (by simp [results, Tryz.results46, go_sem, *]) rfl ?_
   refine ⟨_, _, _, _, _, _, _, _, _, _, _, _, _, _, _, fun _ => 0, by rw [He.out], ?_, ext_⟩
   rw [He.out]
   exact ⟨OwT.nil .., OwT.nil .., OwT.nil .., OwT.nil .., OwT.nil ..⟩
 have hok := (Sw.mktOk_iff.1 g1)
 obtain ⟨rows, hok⟩ := hok
 have e : Sw.mktDo m r = Sw.doIt m r := by simp [Sw.mktDo, g1, g2]
 have He := Lib.hid e; clear e
 have HK := Lib.hid hok
 have HR := Lib.hid g2
 clear hok
 have hk2 := Sw.doIt_ok HK.out HR.out
 obtain ⟨rows2, hk2⟩ := hk2
 have HLn := Lib.hid (MOk_len hk2)
 clear hk2
 obtain ⟨ru, rn, rk, rt, rh, rp⟩ := r
 go_enter Tryz.func46, Tryz.ntmps46
 go_wp2_with (first | (go_at_call 44; apply Calls.mono; apply iMktOk_c; (exact rdM_); rintro E w1 ⟨rfl, hb⟩; obtain ⟨hc, hf, hz⟩ := xy hb) | (go_at_call 109; apply Calls.mono; apply (iReqOk_c ⟨ru, rn, rk, rt, rh, rp⟩); rintro E w3 ⟨rfl, hb⟩; rw [g2]; obtain ⟨hc, hf, hz⟩ := xy hb) | (go_at_call 111; apply Calls.mono; apply iMktClone_c; (exact rdM_); (first | assumption | omega); rintro E w1 ⟨bL, bLc, bLn, bP, bPc, bPn, bD, bDc, bDn, bN, bNc, bNn, bS, bSc, bSn, τ, rfl, ho, hb⟩; obtain ⟨hc, hf, hz⟩ := xy hb))
 have hWc : Ex w (w1.alloc (.cells #[.slice bL bLn bLc, .slice bP bPn bPc, .slice bD bDn bDc, .int .i64 m.clock, .slice bN bNn bNc, .slice bS bSn bSc] 40)) := ext_
 have hz3 : w.heap.size + 3 ≤ w3.heap.size := sz_
 have hz1 : w3.heap.size ≤ w1.heap.size := sz_
 have hS : MS w1.heap.size 0 6 w3.heap.size (glue τ w1.heap.size (fun _ => 0)) (w1.alloc (.cells #[.slice bL bLn bLc, .slice bP bPn bPc, .slice bD bDn bDc, .int .i64 m.clock, .slice bN bNn bNc, .slice bS bSn bSc] 40)) bL bLc bLn bP bPc bPn bD bDc bDn bN bNc bNn bS bSc bSn m (glue τ w1.heap.size (fun _ => 0)) (w1.alloc (.cells #[.slice bL bLn bLc, .slice bP bPn bPc, .slice bD bDn bDc, .int .i64 m.clock, .slice bN bNn bNc, .slice bS bSn bSc] 40)) :=
   MS.start ⟨sz_, by simp [go_sem], by simp [go_sem], by simp [go_sem], by simp [go_sem], by simp [go_sem], by simp [go_sem], fun i => by simp [go_sem]⟩ (Lb.new rfl rfl) ((ho.glueL (Nat.le_refl _)).keepF kf_) (glue0 (Nat.le_refl _)) sz_
 apply Calls.mono
 apply (iDo_c hS ⟨ru, rn, rk, rt, rh, rp⟩ HK.out HR.out)
 rintro E w4 ⟨fL, fLc, fLn, fP, fPc, fPn, fD, fDc, fDn, fN, fNc, fNn, fS, fSc, fSn, τ4, rfl, hm4⟩
 have hS2 : ¬ SG w1.heap.size w3.heap.size (glue τ w1.heap.size (fun _ => 0)) (w.heap.size + 1 + 1) := by
   rintro (h1 | ⟨h1, _⟩)
   · omega
   · omega
 have hr1 := fun i : Nat => hm4.ch.cell (p := ⟨w.heap.size + 1 + 1, i, none⟩) sz_ hS2
 have hr2 := fun i : Nat => hm4.ch.frozen (p := ⟨w.heap.size + 1 + 1, i, none⟩) sz_ hS2
 have hex : Ex w w4 := Ch.trans' hWc hm4.ch (fun i hi h => by
   rcases h with h1 | ⟨h1, _⟩
   · have h1 : i = w1.heap.size := h1
     omega
   · omega)
 obtain ⟨j0, j1, j2, j3, j4, j5, j6, jf⟩ := hm4.at_
 simp only [Nat.zero_add] at j1 j2 j3 j4 j5 j6
 have ho4 := hm4.ow
 have hz4 := hm4.ch.size
 simp only [zA] at hz4
 have hsum : fLn + fPn + fDn + fNn + fSn ≤ 1048576 := by
   obtain ⟨q1, q2, q3, q4, q5⟩ := HLn.out
   have := ho4.log.ow.1; have := ho4.purses.ow.1; have := ho4.deals.ow.1; have := ho4.nums.ow.1; have := ho4.said.ow.1
   omega
 clear hm4 hS ho
 obtain ⟨x, hx⟩ : ∃ x, x = Sw.doIt m ⟨ru, rn, rk, rt, rh, rp⟩ := ⟨_, rfl⟩
 rw [← hx] at ho4 j4 ⊢
 have Hx := Lib.hid hx
 clear hx
 go_wp2_with (go_at_call 111; apply Calls.mono; apply iMktClone_c; (apply OwM.rm0 ho4; (exact kf_)); exact hsum; rintro E w5 ⟨dL, dLc, dLn, dP, dPc, dPn, dD, dDc, dDn, dN, dNc, dNn, dS, dSc, dSn, τ5, rfl, ho5, hb⟩; obtain ⟨hc, hf, hz⟩ := xy hb)
 refine bodyPost_ret (v := .tuple #[.agg #[.slice dL dLn dLc, .slice dP dPn dPc, .slice dD dDn dDc, .int .i64 x.1.clock, .slice dN dNn dNc, .slice dS dSn dSc], .int .i64 x.2]) (by simp [results, Tryz.results46, go_sem, *]) rfl ?_
 refine ⟨_, _, _, _, _, _, _, _, _, _, _, _, _, _, _, τ5, by rw [He.out, ← Hx.out], ?_, ext_⟩
 rw [He.out, ← Hx.out]
 exact OwM.less (ho5.keepF (by (exact kf_))) (by exact sz_)
set_option maxHeartbeats 2000000
theorem gatOk_done {h : Sw.Head} {xs : List Int} (k : Sw.gatOk ⟨h, xs⟩ = true) : xs.Pairwise (· < ·) := by
 simp only [Sw.gatOk, Bool.and_eq_true] at k
 exact ((Sw.rises_iff xs (-1)).1 k.2).2
theorem sGatShow_c (t : Sw.Head) (A : Option Addr) (c n : Nat) (xs : List Int) (k who : Int) (r : Sw.Row) (B : Option Addr) (d m : Nat) (ps : List Int) (w : World) (hxs : RI w 0 A c n xs) (hps : RI w 0 B d m ps) : Calls Tryz.prog 207 #[.agg #[.int .i64 t.size, .int .i64 t.log, .int .i64 t.own, .slice A n c], .int .i64 k, .int .i64 who, .agg #[.int .i64 r.who, .int .i64 r.face, .bool r.used], .slice B m d] w fun E w' => ∃ A' c' n', E = .returned (.tuple #[.agg #[.int .i64 (Sw.gatShow ⟨t, xs⟩ k who r ps).1.head.size, .int .i64 (Sw.gatShow ⟨t, xs⟩ k who r ps).1.head.log, .int .i64 (Sw.gatShow ⟨t, xs⟩ k who r ps).1.head.own, .slice A' n' c'], .bool (Sw.gatShow ⟨t, xs⟩ k who r ps).2]) ∧ OwI w' w.heap.size A' c' n' (Sw.gatShow ⟨t, xs⟩ k who r ps).1.done ∧ Ex w w' := by
 obtain ⟨rh, rf, ru⟩ := r
 have hl := Lib.hid hxs.1
 cases g1 : Sw.gatOk ⟨t, xs⟩
 case false =>
   have e : Sw.gatShow ⟨t, xs⟩ k who ⟨rh, rf, ru⟩ ps = (Sw.gateZ, false) := by simp [Sw.gatShow, g1]
   have He := Lib.hid e; clear e
   go_enter Tryz.func207, Tryz.ntmps207
   go_wp2_with (first | (go_at_call 98; apply Calls.mono; apply sGatOk_c; (exact rdw_); rintro E w1 ⟨rfl, hb⟩; obtain ⟨hc, hf, hz⟩ := xy hb))
   refine bodyPost_ret (v := .tuple #[.agg #[.int .i64 0, .int .i64 0, .int .i64 0, .slice none 0 0], .bool false]) (by simp [results, Tryz.results207, go_sem, *]) rfl ?_
   exact ⟨none, 0, 0, by rw [He.out]; rfl, by rw [He.out]; exact Ow.nil _ _, ext_⟩
 have h8 : n ≤ 8 := by have := gatOk_len g1; have := hl.out; simp at *; omega
 cases g2 : Sw.inR who 1 5
 case false =>
   have e : Sw.gatShow ⟨t, xs⟩ k who ⟨rh, rf, ru⟩ ps = (⟨t, xs⟩, false) := by unfold Sw.gatShow; rw [if_pos g1, if_neg (by simp [Sw.gatMay, g2])]
   have He := Lib.hid e; clear e
   go_enter Tryz.func207, Tryz.ntmps207
   go_wp2_with (first | (go_at_call 98; apply Calls.mono; apply sGatOk_c; (exact rdw_); rintro E w1 ⟨rfl, hb⟩; obtain ⟨hc, hf, hz⟩ := xy hb) | (go_at_call 148; apply Calls.mono; apply sCopy_c; (exact rdw_); (first | assumption | omega); rintro E w1 ⟨A', c', rfl, hr, hb⟩; obtain ⟨hc, hf, hz⟩ := xy hb) | (go_at_call 99; refine (l1In_c _ _ _ _).mono ?_; rintro E w' ⟨rfl, rfl⟩) | (go_at_call 249; apply Calls.mono; apply sHas_c; (apply Rs.at0 hxs; (exact kf_)); rintro E w' ⟨rfl, rfl⟩) | (go_at_call 250; apply Calls.mono; apply sOwnCheckA_c; (apply Rs.at0 hps; (exact kf_)); rintro E wq ⟨rfl, hbq⟩; obtain ⟨hcq, hfq, hzq⟩ := xy hbq))
   refine bodyPost_ret (v := .tuple #[.agg #[.int .i64 t.size, .int .i64 t.log, .int .i64 t.own, .slice A' n c'], .bool false]) (by simp [results, Tryz.results207, go_sem, *]) rfl ?_
   exact ⟨A', c', n, by rw [He.out], by rw [He.out]; exact (hr.keep (by (exact kf_))).less (by exact sz_), ext_⟩
 by_cases h3 : who = rh
 case neg =>
   have g3 : (rh != who) = true := by rw [bne_iff_ne]; exact Ne.symm h3
   have H3 := Lib.hid h3; clear h3
   have e : Sw.gatShow ⟨t, xs⟩ k who ⟨rh, rf, ru⟩ ps = (⟨t, xs⟩, false) := by unfold Sw.gatShow; rw [if_pos g1, if_neg (by simp [Sw.gatMay, H3.out])]
   have He := Lib.hid e; clear e
   go_enter Tryz.func207, Tryz.ntmps207
   go_wp2_with (first | (go_at_call 98; apply Calls.mono; apply sGatOk_c; (exact rdw_); rintro E w1 ⟨rfl, hb⟩; obtain ⟨hc, hf, hz⟩ := xy hb) | (go_at_call 148; apply Calls.mono; apply sCopy_c; (exact rdw_); (first | assumption | omega); rintro E w1 ⟨A', c', rfl, hr, hb⟩; obtain ⟨hc, hf, hz⟩ := xy hb) | (go_at_call 99; refine (l1In_c _ _ _ _).mono ?_; rintro E w' ⟨rfl, rfl⟩) | (go_at_call 249; apply Calls.mono; apply sHas_c; (apply Rs.at0 hxs; (exact kf_)); rintro E w' ⟨rfl, rfl⟩) | (go_at_call 250; apply Calls.mono; apply sOwnCheckA_c; (apply Rs.at0 hps; (exact kf_)); rintro E wq ⟨rfl, hbq⟩; obtain ⟨hcq, hfq, hzq⟩ := xy hbq))
   refine bodyPost_ret (v := .tuple #[.agg #[.int .i64 t.size, .int .i64 t.log, .int .i64 t.own, .slice A' n c'], .bool false]) (by simp [results, Tryz.results207, go_sem, *]) rfl ?_
   exact ⟨A', c', n, by rw [He.out], by rw [He.out]; exact (hr.keep (by (exact kf_))).less (by exact sz_), ext_⟩
 subst h3
 cases ru
 case true =>
   have e : Sw.gatShow ⟨t, xs⟩ k who ⟨who, rf, true⟩ ps = (⟨t, xs⟩, false) := by unfold Sw.gatShow; rw [if_pos g1, if_neg (by simp [Sw.gatMay])]
   have He := Lib.hid e; clear e
   go_enter Tryz.func207, Tryz.ntmps207
   go_wp2_with (first | (go_at_call 98; apply Calls.mono; apply sGatOk_c; (exact rdw_); rintro E w1 ⟨rfl, hb⟩; obtain ⟨hc, hf, hz⟩ := xy hb) | (go_at_call 148; apply Calls.mono; apply sCopy_c; (exact rdw_); (first | assumption | omega); rintro E w1 ⟨A', c', rfl, hr, hb⟩; obtain ⟨hc, hf, hz⟩ := xy hb) | (go_at_call 99; refine (l1In_c _ _ _ _).mono ?_; rintro E w' ⟨rfl, rfl⟩) | (go_at_call 249; apply Calls.mono; apply sHas_c; (apply Rs.at0 hxs; (exact kf_)); rintro E w' ⟨rfl, rfl⟩) | (go_at_call 250; apply Calls.mono; apply sOwnCheckA_c; (apply Rs.at0 hps; (exact kf_)); rintro E wq ⟨rfl, hbq⟩; obtain ⟨hcq, hfq, hzq⟩ := xy hbq))
   refine bodyPost_ret (v := .tuple #[.agg #[.int .i64 t.size, .int .i64 t.log, .int .i64 t.own, .slice A' n c'], .bool false]) (by simp [results, Tryz.results207, go_sem, *]) rfl ?_
   exact ⟨A', c', n, by rw [He.out], by rw [He.out]; exact (hr.keep (by (exact kf_))).less (by exact sz_), ext_⟩
 cases g5 : hasI xs k
 case true =>
   have H5 := Lib.hid (show k ∈ xs by simpa [hasI] using g5)
   have e : Sw.gatShow ⟨t, xs⟩ k who ⟨who, rf, false⟩ ps = (⟨t, xs⟩, false) := by unfold Sw.gatShow; rw [if_pos g1, if_neg (by simp [Sw.gatMay, H5.out])]
   have He := Lib.hid e; clear e
   go_enter Tryz.func207, Tryz.ntmps207
   go_wp2_with (first | (go_at_call 98; apply Calls.mono; apply sGatOk_c; (exact rdw_); rintro E w1 ⟨rfl, hb⟩; obtain ⟨hc, hf, hz⟩ := xy hb) | (go_at_call 148; apply Calls.mono; apply sCopy_c; (exact rdw_); (first | assumption | omega); rintro E w1 ⟨A', c', rfl, hr, hb⟩; obtain ⟨hc, hf, hz⟩ := xy hb) | (go_at_call 99; refine (l1In_c _ _ _ _).mono ?_; rintro E w' ⟨rfl, rfl⟩) | (go_at_call 249; apply Calls.mono; apply sHas_c; (apply Rs.at0 hxs; (exact kf_)); rintro E w' ⟨rfl, rfl⟩) | (go_at_call 250; apply Calls.mono; apply sOwnCheckA_c; (apply Rs.at0 hps; (exact kf_)); rintro E wq ⟨rfl, hbq⟩; obtain ⟨hcq, hfq, hzq⟩ := xy hbq))
   refine bodyPost_ret (v := .tuple #[.agg #[.int .i64 t.size, .int .i64 t.log, .int .i64 t.own, .slice A' n c'], .bool false]) (by simp [results, Tryz.results207, go_sem, *]) rfl ?_
   exact ⟨A', c', n, by rw [He.out], by rw [He.out]; exact (hr.keep (by (exact kf_))).less (by exact sz_), ext_⟩
 have H5 := Lib.hid (show k ∉ xs by simpa [hasI] using g5)
 cases g6 : Sw.ownCheck t.own k ⟨who, rf, false⟩ ps
 case false =>
   have e : Sw.gatShow ⟨t, xs⟩ k who ⟨who, rf, false⟩ ps = (⟨t, xs⟩, false) := by unfold Sw.gatShow; rw [if_pos g1, if_neg (by simp [Sw.gatMay, g6])]
   have He := Lib.hid e; clear e
   go_enter Tryz.func207, Tryz.ntmps207
   go_wp2_with (first | (go_at_call 98; apply Calls.mono; apply sGatOk_c; (exact rdw_); rintro E w1 ⟨rfl, hb⟩; obtain ⟨hc, hf, hz⟩ := xy hb) | (go_at_call 148; apply Calls.mono; apply sCopy_c; (exact rdw_); (first | assumption | omega); rintro E w1 ⟨A', c', rfl, hr, hb⟩; obtain ⟨hc, hf, hz⟩ := xy hb) | (go_at_call 99; refine (l1In_c _ _ _ _).mono ?_; rintro E w' ⟨rfl, rfl⟩) | (go_at_call 249; apply Calls.mono; apply sHas_c; (apply Rs.at0 hxs; (exact kf_)); rintro E w' ⟨rfl, rfl⟩) | (go_at_call 250; apply Calls.mono; apply sOwnCheckA_c; (apply Rs.at0 hps; (exact kf_)); rintro E wq ⟨rfl, hbq⟩; obtain ⟨hcq, hfq, hzq⟩ := xy hbq))
   refine bodyPost_ret (v := .tuple #[.agg #[.int .i64 t.size, .int .i64 t.log, .int .i64 t.own, .slice A' n c'], .bool false]) (by simp [results, Tryz.results207, go_sem, *]) rfl ?_
   exact ⟨A', c', n, by rw [He.out], by rw [He.out]; exact (hr.keep (by (exact kf_))).less (by exact sz_), ext_⟩
 have e : Sw.gatShow ⟨t, xs⟩ k who ⟨who, rf, false⟩ ps = (⟨t, Sw.insert k xs⟩, true) := by unfold Sw.gatShow; rw [if_pos g1, if_pos (by simp [Sw.gatMay, g2, H5.out, g6])]
 have He := Lib.hid e; clear e
 have HS := Lib.hid (gatOk_done g1)
 go_enter Tryz.func207, Tryz.ntmps207
 go_wp2_with (first | (go_at_call 251; apply Calls.mono; apply sPut9_c; (exact rdw_); (first | assumption | omega); rintro E w1 ⟨A', c', rfl, hoP, hb⟩; obtain ⟨hc, hf, hz⟩ := xy hb) | (go_at_call 98; apply Calls.mono; apply sGatOk_c; (exact rdw_); rintro E w1 ⟨rfl, hb⟩; obtain ⟨hc, hf, hz⟩ := xy hb) | (go_at_call 148; apply Calls.mono; apply sCopy_c; (exact rdw_); (first | assumption | omega); rintro E w1 ⟨A', c', rfl, hr, hb⟩; obtain ⟨hc, hf, hz⟩ := xy hb) | (go_at_call 99; refine (l1In_c _ _ _ _).mono ?_; rintro E w' ⟨rfl, rfl⟩) | (go_at_call 249; apply Calls.mono; apply sHas_c; (apply Rs.at0 hxs; (exact kf_)); rintro E w' ⟨rfl, rfl⟩) | (go_at_call 250; apply Calls.mono; apply sOwnCheckA_c; (apply Rs.at0 hps; (exact kf_)); rintro E wq ⟨rfl, hbq⟩; obtain ⟨hcq, hfq, hzq⟩ := xy hbq))
 refine bodyPost_ret (v := .tuple #[.agg #[.int .i64 t.size, .int .i64 t.log, .int .i64 t.own, .slice A' (n + 1) c'], .bool true]) (by simp [results, Tryz.results207, go_sem, *]) rfl ?_
 exact ⟨A', c', n + 1, by rw [He.out], by rw [He.out]; exact (hoP.keep kf_).less sz_, ext_⟩
set_option maxHeartbeats 1000000
theorem swEntries_c (A : Option Addr) (c n : Nat) (xs : List Sw.Ent) (B : Option Addr) (d m : Nat) (ys : List Sw.Ent) (w : World) (hxs : RE w 0 A c n xs) (hys : RE w 0 B d m ys) : Calls Tryz.prog 116 #[.slice A n c, .slice B m d] w fun E w' => E = .returned (.bool (decide (xs = ys))) ∧ Ex w w' := by
 have hl := Lib.hid hxs.1
 have hl' := Lib.hid hys.1
 have hbig := Rs.big hxs
 by_cases hnm : n = m
 case neg =>
   have hb : ((n : Int) == m) = false := by simp; omega
   have e : decide (xs = ys) = false := by
     rw [decide_eq_false_iff_not]; rintro rfl
     have := hl.out; have := hl'.out; omega
   rw [e]; clear e
   go_enter Tryz.func116, Tryz.ntmps116
   go_wp2_with fail
   go_ret
   exact ⟨rfl, (by exact ext_)⟩
 subst hnm
 go_enter Tryz.func116, Tryz.ntmps116
 go_wp2_with fail
 go_loopw [5] (fun i wr => ∃ k : Nat, k ≤ n ∧ i = .int .i64 k ∧ Ex w wr ∧ decide (xs = ys) = decide (xs.drop k = ys.drop k)) (fun i _ => n - (intOf i).toNat)
 case atStart => exact ⟨0, Nat.zero_le _, rfl, Ch.refl _ _, rfl⟩
 case round =>
   obtain ⟨k, hk, rfl, hb2, hrel⟩ := hrel
   have hst := Ex.rules hb2 rfl
   obtain ⟨hc2, hf2, hz2⟩ := hst
   by_cases hlt : k < n
   · obtain ⟨g, off, y, rfl, hg0, hg, hd, hy, hca0, hca1, hca2, hca3⟩ := at_E hxs hlt
     obtain ⟨g', off', z, rfl, hg0', hg', hd', hz', hcb0, hcb1, hcb2, hcb3⟩ := at_E hys hlt
     have t1 : (0 : Int) ≤ (k : Int) := by omega
     have t2 : (k : Int) < (n : Int) := by omega
     rw [hd, hd'] at hrel
     have Hrel := Lib.hid hrel
     clear hrel hd hd' hy hz'
     cases hyz : decide (y = z) with
     | true =>
       go_wp2_with fail
       (first | (obtain rfl := of_decide_eq_true hyz; go_quiet ((first | fail))) | (have hn := of_decide_eq_false hyz; by_cases a1 : y.kind = z.kind; all_goals (by_cases a2 : y.ticket = z.ticket); all_goals (by_cases a3 : y.who = z.who); all_goals (by_cases a4 : y.price = z.price); all_goals (try (exfalso; apply hn; cases y; cases z; simp_all; done)); all_goals go_quiet ((first | fail))))
       all_goals go_wp2
       all_goals go_roundw
       case rel => exact ⟨k + 1, by omega, by go_num, (by exact ext_), by rw [Hrel.out]; simp [of_decide_eq_true hyz]⟩
       case measure => simp [intOf]; omega
     | false =>
       go_wp2_with fail
       (first | (obtain rfl := of_decide_eq_true hyz; go_quiet ((first | fail))) | (have hn := of_decide_eq_false hyz; by_cases a1 : y.kind = z.kind; all_goals (by_cases a2 : y.ticket = z.ticket); all_goals (by_cases a3 : y.who = z.who); all_goals (by_cases a4 : y.price = z.price); all_goals (try (exfalso; apply hn; cases y; cases z; simp_all; done)); all_goals go_quiet ((first | fail))))
       all_goals go_wp2
       all_goals go_ret
       all_goals exact ⟨ret_b (by rw [Hrel.out]; simp [of_decide_eq_false hyz]), (by exact ext_)⟩
   · have Hrel := Lib.hid hrel; clear hrel
     go_wp2_with fail
     go_ret
     refine ⟨ret_b ?_, (by exact ext_)⟩
     rw [Hrel.out, List.drop_of_length_le (by have := hl.out; omega), List.drop_of_length_le (by have := hl'.out; omega)]
     simp
theorem swDeals_c (A : Option Addr) (c n : Nat) (xs : List Sw.Deal) (B : Option Addr) (d m : Nat) (ys : List Sw.Deal) (w : World) (hxs : RDl w 0 A c n xs) (hys : RDl w 0 B d m ys) : Calls Tryz.prog 117 #[.slice A n c, .slice B m d] w fun E w' => E = .returned (.bool (decide (xs = ys))) ∧ Ex w w' := by
 have hl := Lib.hid hxs.1
 have hl' := Lib.hid hys.1
 have hbig := Rs.big hxs
 by_cases hnm : n = m
 case neg =>
   have hb : ((n : Int) == m) = false := by simp; omega
   have e : decide (xs = ys) = false := by
     rw [decide_eq_false_iff_not]; rintro rfl
     have := hl.out; have := hl'.out; omega
   rw [e]; clear e
   go_enter Tryz.func117, Tryz.ntmps117
   go_wp2_with fail
   go_ret
   exact ⟨rfl, (by exact ext_)⟩
 subst hnm
 go_enter Tryz.func117, Tryz.ntmps117
 go_wp2_with fail
 go_loopw [5] (fun i wr => ∃ k : Nat, k ≤ n ∧ i = .int .i64 k ∧ Ex w wr ∧ decide (xs = ys) = decide (xs.drop k = ys.drop k)) (fun i _ => n - (intOf i).toNat)
 case atStart => exact ⟨0, Nat.zero_le _, rfl, Ch.refl _ _, rfl⟩
 case round =>
   obtain ⟨k, hk, rfl, hb2, hrel⟩ := hrel
   have hst := Ex.rules hb2 rfl
   obtain ⟨hc2, hf2, hz2⟩ := hst
   by_cases hlt : k < n
   · obtain ⟨g, off, y, rfl, hg0, hg, hd, hy, hca0, hca1, hca2, hca3, hca4⟩ := at_D hxs hlt
     obtain ⟨g', off', z, rfl, hg0', hg', hd', hz', hcb0, hcb1, hcb2, hcb3, hcb4⟩ := at_D hys hlt
     have t1 : (0 : Int) ≤ (k : Int) := by omega
     have t2 : (k : Int) < (n : Int) := by omega
     rw [hd, hd'] at hrel
     have Hrel := Lib.hid hrel
     clear hrel hd hd' hy hz'
     cases hyz : decide (y = z) with
     | true =>
       go_wp2_with fail
       (first | (obtain rfl := of_decide_eq_true hyz; go_quiet ((first | fail))) | (have hn := of_decide_eq_false hyz; by_cases a1 : y.ticket = z.ticket; all_goals (by_cases a2 : y.seller = z.seller); all_goals (by_cases a3 : y.price = z.price); all_goals (by_cases a4 : y.buyer = z.buyer); all_goals (by_cases a5 : y.due = z.due); all_goals (try (exfalso; apply hn; cases y; cases z; simp_all; done)); all_goals go_quiet ((first | fail))))
       all_goals go_wp2
       all_goals go_roundw
       case rel => exact ⟨k + 1, by omega, by go_num, (by exact ext_), by rw [Hrel.out]; simp [of_decide_eq_true hyz]⟩
       case measure => simp [intOf]; omega
     | false =>
       go_wp2_with fail
       (first | (obtain rfl := of_decide_eq_true hyz; go_quiet ((first | fail))) | (have hn := of_decide_eq_false hyz; by_cases a1 : y.ticket = z.ticket; all_goals (by_cases a2 : y.seller = z.seller); all_goals (by_cases a3 : y.price = z.price); all_goals (by_cases a4 : y.buyer = z.buyer); all_goals (by_cases a5 : y.due = z.due); all_goals (try (exfalso; apply hn; cases y; cases z; simp_all; done)); all_goals go_quiet ((first | fail))))
       all_goals go_wp2
       all_goals go_ret
       all_goals exact ⟨ret_b (by rw [Hrel.out]; simp [of_decide_eq_false hyz]), (by exact ext_)⟩
   · have Hrel := Lib.hid hrel; clear hrel
     go_wp2_with fail
     go_ret
     refine ⟨ret_b ?_, (by exact ext_)⟩
     rw [Hrel.out, List.drop_of_length_le (by have := hl.out; omega), List.drop_of_length_le (by have := hl'.out; omega)]
     simp
theorem swMarket_c (aL : Option Addr) (aLc aLn : Nat) (aP : Option Addr) (aPc aPn : Nat) (aD : Option Addr) (aDc aDn : Nat) (aN : Option Addr) (aNc aNn : Nat) (aS : Option Addr) (aSc aSn : Nat) (x : Sw.Mkt) (bL : Option Addr) (bLc bLn : Nat) (bP : Option Addr) (bPc bPn : Nat) (bD : Option Addr) (bDc bDn : Nat) (bN : Option Addr) (bNc bNn : Nat) (bS : Option Addr) (bSc bSn : Nat) (y : Sw.Mkt) (w : World) (hx : RM w 0 aL aLc aLn aP aPc aPn aD aDc aDn aN aNc aNn aS aSc aSn x) (hy : RM w 0 bL bLc bLn bP bPc bPn bD bDc bDn bN bNc bNn bS bSc bSn y) : Calls Tryz.prog 42 #[.agg #[.slice aL aLn aLc, .slice aP aPn aPc, .slice aD aDn aDc, .int .i64 x.clock, .slice aN aNn aNc, .slice aS aSn aSc], .agg #[.slice bL bLn bLc, .slice bP bPn bPc, .slice bD bDn bDc, .int .i64 y.clock, .slice bN bNn bNc, .slice bS bSn bSc]] w fun E w' => E = .returned (.bool (decide (x = y))) ∧ Ex w w' := by
 obtain ⟨x1, x2, x3, x4, x5⟩ := hx
 obtain ⟨y1, y2, y3, y4, y5⟩ := hy
 go_enter Tryz.func42, Tryz.ntmps42
 go_wp2_with (first | (go_at_call 116; apply Calls.mono; apply swEntries_c; (exact rd_); (exact rd_); rintro E w1 ⟨rfl, hb⟩; obtain ⟨hc, hf, hz⟩ := xy hb) | (go_at_call 95; apply Calls.mono; apply swInts_c; (exact rd_); (exact rd_); rintro E w1 ⟨rfl, hb⟩; obtain ⟨hc, hf, hz⟩ := xy hb) | (go_at_call 117; apply Calls.mono; apply swDeals_c; (exact rd_); (exact rd_); rintro E w1 ⟨rfl, hb⟩; obtain ⟨hc, hf, hz⟩ := xy hb))
 all_goals (go_ret; refine ⟨ret_b ?_, ext_⟩; go_tidy; simp only [mkt_ext])
 all_goals (first | (simp [*]; done) | (simp_all; done))
end Go.Proofs.YtnnoiagommiapaaGreat
