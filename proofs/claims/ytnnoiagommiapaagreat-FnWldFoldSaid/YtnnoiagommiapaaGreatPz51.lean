/- Texts joined: DrZ, FoldI. -/
import Derived.Test.YtnnoiagommiapaaGreatPz50
import Derived.Test.YtnnoiagommiapaaGreatPz7
import Derived.Deep.DeepCutAuto
import Derived.Test.YtnnoiagommiapaaGreatPz42
set_option maxRecDepth 100000
set_option linter.unusedSimpArgs false
set_option linter.unusedVariables false
namespace Go.Proofs.YtnnoiagommiapaaGreat
open Go.RowKit Go
set_option maxHeartbeats 4000000
def sel3V (v : Nat) (a b c : Value) : Value := if v = 0 then a else if v = 1 then b else c
theorem sel3V_cell {v : Nat} (h : v < 3) (W : World) (a b c : Value) (T : TypeId) : (W.alloc (.cells #[a, b, c] T)).cell? ⟨W.heap.size, v, none⟩ = some (sel3V v a b c) := by
 rcases (show v = 0 ∨ v = 1 ∨ v = 2 by omega) with rfl | rfl | rfl <;> simp [go_sem, sel3V]
theorem l21First_c (rb P : Nat) (w : World) (hr : Rdp w rb P) (hP : P ≤ 900000) : Calls Tryz.prog 172 #[.pointer (some ⟨rb, 0, none⟩)] w fun E w' => ∃ A c xs, E = .returned (.slice A 5 c) ∧ OwI w' w.heap.size A c 5 xs ∧ Sw.newOk xs = true ∧ Rdp w' rb (P + 1) ∧ Ch (· = rb) w w' := by
 have hlt := hr.lt
 go_enter Tryz.func172, Tryz.ntmps172
 go_wp2_with (go_at_call 92; apply Calls.mono; apply (pickN_c (N := 3)); (apply Rdp.keep; assumption; (exact kb_)); omega; rfl; decide; rintro E w5 ⟨v5, rfl, hv5, hrd, hb⟩; have hsel := sel3V_cell hv5; have hv5i : (v5 : Int) < 3 := (by omega); (obtain ⟨hc, hf, hz⟩ := xd hb))
 have o0 : OwI  (w.alloc (.cells #[.int .i64 0, .int .i64 100, .int .i64 100, .int .i64 300, .int .i64 50] 3)) w.heap.size (some ⟨w.heap.size, 0, none⟩) 5 5 [0, 100, 100, 300, 50] := Ow.new (enc := encI) (sz := 1) [0, 100, 100, 300, 50] (by simp) rfl rfl (fun _ => rfl) (by omega) (by decide)
 have o1 : OwI  ((w.alloc (.cells #[.int .i64 0, .int .i64 100, .int .i64 100, .int .i64 300, .int .i64 50] 3)).alloc (.cells #[.int .i64 10, .int .i64 60, .int .i64 60, .int .i64 60, .int .i64 60] 3)) w.heap.size (some ⟨w.heap.size + 1, 0, none⟩) 5 5 [10, 60, 60, 60, 60] := Ow.new (enc := encI) (sz := 1) [10, 60, 60, 60, 60] (by simp) rfl rfl (fun _ => rfl) (by omega) (by decide)
 have o2 : OwI  (((w.alloc (.cells #[.int .i64 0, .int .i64 100, .int .i64 100, .int .i64 300, .int .i64 50] 3)).alloc (.cells #[.int .i64 10, .int .i64 60, .int .i64 60, .int .i64 60, .int .i64 60] 3)).alloc (.cells #[.int .i64 0, .int .i64 1000, .int .i64 1000, .int .i64 1000, .int .i64 1000] 3)) w.heap.size (some ⟨w.heap.size + 1 + 1, 0, none⟩) 5 5 [0, 1000, 1000, 1000, 1000] := Ow.new (enc := encI) (sz := 1) [0, 1000, 1000, 1000, 1000] (by simp) rfl rfl (fun _ => rfl) (by omega) (by decide)
 rcases (show v5 = 0 ∨ v5 = 1 ∨ v5 = 2 by omega) with rfl | rfl | rfl
 · go_ret
   exact ⟨_, _, _, rfl, o0.keep kf_, (by decide +kernel), hrd, ext_⟩
 · go_ret
   exact ⟨_, _, _, rfl, o1.keep kf_, (by decide +kernel), hrd, ext_⟩
 · go_ret
   exact ⟨_, _, _, rfl, o2.keep kf_, (by decide +kernel), hrd, ext_⟩
theorem new_wok {p : List Int} (h : Sw.newOk p = true) : Sw.WOk (Sw.wldNew p) := by
 simp only [Sw.newOk, Bool.and_eq_true, decide_eq_true_eq] at h
 exact Sw.wldNew_ok h.1 h.2
theorem l21World_c (rb P : Nat) (w : World) (hr : Rdp w rb P) (hP : P ≤ 80000) : Calls Tryz.prog 90 #[.pointer (some ⟨rb, 0, none⟩)] w fun E w' => ∃ (bF : Option Addr) (bFc bFn : Nat) (bL : Option Addr) (bLc bLn : Nat) (bP : Option Addr) (bPc bPn : Nat) (bD : Option Addr) (bDc bDn : Nat) (bN : Option Addr) (bNc bNn : Nat) (bS : Option Addr) (bSc bSn : Nat) (bI : Option Addr) (bIc bIn : Nat) (bG : Option Addr) (bGc bGn : Nat) (bB : Option Addr) (bBc bBn : Nat) (z : Sw.World), E = .returned (.agg #[.slice bF bFn bFc, .slice bL bLn bLc, .slice bP bPn bPc, .slice bD bDn bDc, .int .i64 z.market.clock, .slice bN bNn bNc, .slice bS bSn bSc, .slice bI bIn bIc, .slice bG bGn bGc, .slice bB bBn bBc]) ∧ RW w' w.heap.size bF bFc bFn bL bLc bLn bP bPc bPn bD bDc bDn bN bNc bNn bS bSc bSn bI bIc bIn bG bGc bGn bB bBc bBn z ∧ Sw.WOk z ∧ Rdp w' rb (P + 12010) ∧ Ch (· = rb) w w' := by
 have hlt := hr.lt
 go_enter Tryz.func90, Tryz.ntmps90
 go_wp2_with (first | (go_at_call 92; apply Calls.mono; apply (pickLit (fun x => x ≤ 80)); (apply Rdp.keep; assumption; (exact kb_)); omega; (first | rfl | (simp; done)); (repeat (first | exact LitQ.nil | (refine LitQ.cons ⟨_, rfl, (by first | exact trivial | omega)⟩ ?_))); omega; (first | omega | (simp only [zq_]; omega)); rintro E w1 ⟨v, x, rfl, hv, hq, hcx, hrd, hb⟩; (try simp only [zq_] at hcx); obtain ⟨hc, hf, hz⟩ := xd hb) | (go_at_call 92; apply Calls.mono; apply pick_c; (apply Rdp.keep; assumption; (exact kb_)); (first | assumption | omega); (first | assumption | omega); rintro E w1 ⟨v, rfl, ⟨hv0, hv1⟩, hrd, hb⟩; obtain ⟨hc, hf, hz⟩ := xd hb) | (go_at_call 172; apply Calls.mono; apply l21First_c; (apply Rdp.keep; assumption; (exact kb_)); omega; rintro E w2 ⟨A2, c2, xs2, rfl, hA2, hnew, hrd, hb⟩; (obtain ⟨hc, hf, hz⟩ := xd hb)) | (go_at_call 171; apply Calls.mono; apply (sWldNew_c (xs := xs2)); (apply Rs.at0 hA2.rs; (exact kf_)); rintro E w3 ⟨F, Fc, Fn, jL, jLc, jLn, jP, jPc, jPn, jD, jDc, jDn, jN, jNc, jNn, jS, jSc, jSn, G, Gc, Gn, τ3, rfl, hwn, hb⟩; obtain ⟨hc, hf, hz⟩ := xy hb) | (go_at_call 91; apply Calls.mono; apply (l21Plays_c (x := Sw.wldNew xs2) (lo := w.heap.size + 1)); (apply Rdp.keep; assumption; (exact kb_)); (exact new_wok hnew); (exact (hwn.rw_.keep kf_).less sz_); omega; omega; (exact sz_); omega; rintro E w5 ⟨V, Vc, Vn, es, fF, fFc, fFn, fL, fLc, fLn, fP, fPc, fPn, fD, fDc, fDn, fN, fNc, fNn, fS, fSc, fSn, fI, fIc, fIn, fG, fGc, fGn, fB, fBc, fBn, z, rfl, hV, hVn, hzr, hzok, hrd, hb⟩; (obtain ⟨hc, hf, hz⟩ := xd hb)))
 refine bodyPost_ret (v := .agg #[.slice fF fFn fFc, .slice fL fLn fLc, .slice fP fPn fPc, .slice fD fDn fDc, .int .i64 z.market.clock, .slice fN fNn fNc, .slice fS fSn fSc, .slice fI fIn fIc, .slice fG fGn fGc, .slice fB fBn fBc]) (by simp [results, Tryz.results90, go_sem, *]) rfl ?_
 exact ⟨fF, fFc, fFn, fL, fLc, fLn, fP, fPc, fPn, fD, fDc, fDn, fN, fNc, fNn, fS, fSc, fSn, fI, fIc, fIn, fG, fGc, fGn, fB, fBc, fBn, z, rfl, (hzr.keep kf_).less sz_, hzok, (Rdp.keep hrd kb_).more (by omega), ext_⟩
end Go.Proofs.YtnnoiagommiapaaGreat
namespace Go.Proofs.YtnnoiagommiapaaGreat
open Go.RowKit Go
set_option maxHeartbeats 8000000
section
variable {g o n lo : Nat} {τ0 τ : Nat → Nat} {w0 w w' : World} {aL : Option Addr} {aLc aLn : Nat} {aP : Option Addr} {aPc aPn : Nat} {aD : Option Addr} {aDc aDn : Nat} {aN : Option Addr} {aNc aNn : Nat} {aS : Option Addr} {aSc aSn : Nat} {m : Sw.Mkt}
theorem iTickS_c (hS : MS g o n lo τ0 w0 aL aLc aLn aP aPc aPn aD aDc aDn aN aNc aNn aS aSc aSn m τ w) {rows : List Sw.Row} (hok : Sw.MOk m rows) (hck : m.clock ≠ 99999) : Calls Tryz.prog 108 #[.pointer (some ⟨g, o, none⟩)] w fun E w' =>
   ∃ (bL : Option Addr) (bLc bLn : Nat) (bP : Option Addr) (bPc bPn : Nat) (bD : Option Addr) (bDc bDn : Nat) (bN : Option Addr) (bNc bNn : Nat) (bS : Option Addr) (bSc bSn : Nat) (τ' : Nat → Nat), E = .returned (.bool true) ∧ MS g o n lo τ0 w0 bL bLc bLn bP bPc bPn bD bDc bDn bN bNc bNn bS bSc bSn (Sw.tick m) τ' w' := by
 have h1 := hok.clk
 have h2 := hS.ow.deals.ow.1
 have h3 := hS.ow.purses.ow.1
 obtain ⟨q1, q2, q3, q4, q5⟩ := MOk_len hok
 apply Calls.mono
 apply (iTick_c g o n aL aLc aLn aP aPc aPn aD aDc aDn aN aNc aNn aS aSc aSn m lo τ w hS.at_ hS.lb hS.ow hS.g0 h1.1 (by omega) (by omega) (by omega) hS.lo_le)
 rintro E w1 ⟨A, c, τ1, rfl, hA, hL, hM, hτ, hout, hch⟩
 refine ⟨aL, aLc, aLn, A, c, aPn, aD, aDc, aDn, aN, aNc, aNn, aS, aSc, aSn, τ1, rfl, ?_⟩
 exact hS.trans ⟨hA, hL, hM, hτ, hout, hch, hS.at_.lt, hS.g0, hS.lo_le⟩
end
theorem iWldFold_c (A : Option Addr) (c n : Nat) (fs : List Int) (B : Option Addr) (d q : Nat) (ls : List Sw.Req) (w : World) (hf : RI w 0 A c n fs) (hl : RQ w 0 B d q ls) : Calls Tryz.prog 40 #[.slice A n c, .slice B q d] w fun E w' => ∃ bL bLc bLn bP bPc bPn bD bDc bDn bN bNc bNn bS bSc bSn τ, E = .returned (.tuple #[.agg #[.slice bL bLn bLc, .slice bP bPn bPc, .slice bD bDn bDc, .int .i64 ((Sw.wldFold fs ls).getD Sw.mktZ).clock, .slice bN bNn bNc, .slice bS bSn bSc], .bool (Sw.wldFold fs ls).isSome]) ∧ OwM τ w' w.heap.size bL bLc bLn bP bPc bPn bD bDc bDn bN bNc bNn bS bSc bSn ((Sw.wldFold fs ls).getD Sw.mktZ) ∧ Ex w w' := by
 have hll := Lib.hid hl.1
 have hbig := Rs.big hl
 by_cases gv : (Sw.monOk fs && decide (Sw.monSum fs ≤ 100000)) = true
 case neg =>
   have e : Sw.wldFold fs ls = none := fold_none fun h => gv (Bool.and_eq_true_iff.1 h).1
   have em : Sw.mktNew fs = Sw.mktZ := by unfold Sw.mktNew; rw [if_neg gv]
   have He := Lib.hid e; have Hm := Lib.hid em; clear e em gv
   go_enter Tryz.func40, Tryz.ntmps40
   go_wp2_with fail
   apply Calls.mono
   apply iMktNew_c
   · apply Rs.at0 hf; (exact kf_)
   rintro E w1 ⟨bL, bLc, bLn, bP, bPc, bPn, bD, bDc, bDn, bN, bNc, bNn, bS, bSc, bSn, τm, rfl, hoM, hb⟩
   obtain rfl : bPn = 0 := by have := hoM.purses.ow.1; rw [Hm.out] at this; exact this
   obtain ⟨hc, hf, hz⟩ := xy hb
   go_wp2_with fail
   refine bodyPost_ret (v := .tuple #[.agg #[.slice none 0 0, .slice none 0 0, .slice none 0 0, .int .i64 0, .slice none 0 0, .slice none 0 0], .bool false]) (by simp [results, Tryz.results40, go_sem, *]) rfl ?_
   refine ⟨_, _, _, _, _, _, _, _, _, _, _, _, _, _, _, fun _ => 0, by rw [He.out]; rfl, ?_, ext_⟩
   rw [He.out]
   exact OwM.zero
 have em : Sw.mktNew fs = ⟨[], fs, [], 0, [0, 0, 0, 0, 0], [0, 0, 0, 0, 0]⟩ := by unfold Sw.mktNew; rw [if_pos gv]
 have h5 : fs.length = 5 := monOk_len (Bool.and_eq_true_iff.1 gv).1
 have hok0 : Sw.MOk (Sw.mktNew fs) _ := Sw.mktNew_ok (Bool.and_eq_true_iff.1 gv).1 (by simpa using (Bool.and_eq_true_iff.1 gv).2)
 have Hm := Lib.hid em; have H5 := Lib.hid h5; have HK0 := Lib.hid hok0; have GV := Lib.hid gv; clear em h5 hok0 gv
 by_cases gl : q ≤ 300
 case neg =>
   have e : Sw.wldFold fs ls = none := fold_none fun h => gl (by have := (Bool.and_eq_true_iff.1 h).2; have := hll.out; simp at *; omega)
   have He := Lib.hid e; clear e
   go_enter Tryz.func40, Tryz.ntmps40
   go_wp2_with fail
   apply Calls.mono
   apply iMktNew_c
   · apply Rs.at0 hf; (exact kf_)
   rintro E w1 ⟨bL, bLc, bLn, bP, bPc, bPn, bD, bDc, bDn, bN, bNc, bNn, bS, bSc, bSn, τm, rfl, hoM, hb⟩
   obtain rfl : bPn = 5 := by have := hoM.purses.ow.1; rw [Hm.out] at this; exact this.trans H5.out
   obtain ⟨hc, hf, hz⟩ := xy hb
   go_wp2_with fail
   refine bodyPost_ret (v := .tuple #[.agg #[.slice none 0 0, .slice none 0 0, .slice none 0 0, .int .i64 0, .slice none 0 0, .slice none 0 0], .bool false]) (by simp [results, Tryz.results40, go_sem, *]) rfl ?_
   refine ⟨_, _, _, _, _, _, _, _, _, _, _, _, _, _, _, fun _ => 0, by rw [He.out]; rfl, ?_, ext_⟩
   rw [He.out]
   exact OwM.zero
 have e0 : Sw.wldFold fs ls = Sw.foldLines (Sw.mktNew fs) ls := by unfold Sw.wldFold; rw [if_pos (by rw [GV.out, ← hll.out]; simp [gl])]
 have E0 := Lib.hid e0; clear e0
 go_enter Tryz.func40, Tryz.ntmps40
 go_wp2_with fail
 apply Calls.mono
 apply iMktNew_c
 · apply Rs.at0 hf; (exact kf_)
 rintro E w1 ⟨bL, bLc, bLn, bP, bPc, bPn, bD, bDc, bDn, bN, bNc, bNn, bS, bSc, bSn, τm, rfl, hoM, hb⟩
 obtain rfl : bPn = 5 := by have := hoM.purses.ow.1; rw [Hm.out] at this; exact this.trans H5.out
 have hbM := hb
 obtain ⟨hc, hf, hz⟩ := xy hb
 go_wp2_with fail
 have hzA : w.heap.size + 1 ≤ w1.heap.size := sz_
 go_loopw [23] (fun i wr => ∃ (k : Nat) (eL : Option Addr) (eLc eLn : Nat) (eP : Option Addr) (ePc ePn : Nat) (eD : Option Addr) (eDc eDn : Nat) (eN : Option Addr) (eNc eNn : Nat) (eS : Option Addr) (eSc eSn : Nat) (y : Sw.Mkt) (rows : List Sw.Row) (τ : Nat → Nat), k ≤ q ∧ i = .int .i64 k ∧ Ex w wr ∧ Lb wr w.heap.size 6 ∧ w1.heap.size < wr.heap.size ∧ MS w1.heap.size 0 6 (w.heap.size + 1) τ wr eL eLc eLn eP ePc ePn eD eDc eDn eN eNc eNn eS eSc eSn y τ wr ∧ τ w.heap.size = 0 ∧ (∀ b, wr.heap.size ≤ b → τ b = 0) ∧ Sw.MOk y rows ∧ Sw.wldFold fs ls = Sw.foldLines y (ls.drop k)) (fun i _ => q - (intOf i).toNat)
 case atStart =>
   refine ⟨0, bL, bLc, bLn, bP, bPc, 5, bD, bDc, bDn, bN, bNc, bNn, bS, bSc, bSn, Sw.mktNew fs, _, mid (w.heap.size + 1) w1.heap.size τm, Nat.zero_le _, rfl, ext_, lbc_, sz_, MS.start ⟨sz_, co_, co_, co_, co_, co_, co_, fun i => co_⟩ (Lb.new rfl rfl) ?_ (mid_out (.inr (Nat.le_refl _))) sz_, mid_out (.inl (Nat.lt_succ_self _)), fun b hb => mid_out (.inr (by simp at hb; omega)), HK0.out, E0.out⟩
   have h := hoM
   simp only [zA] at h
   exact h.mid.keepF kf_
 case round =>
   obtain ⟨k, eL, eLc, eLn, eP, ePc, ePn, eD, eDc, eDn, eN, eNc, eNn, eS, eSc, eSn, y, rows, τ, hk, rfl, hbw, hLr, hgw, hMS, ht0, htz, hok, hrel⟩ := hrel
   have hst := xr hbw
   (try simp only [zq_] at hst)
   obtain ⟨hc2, hf2, hz2⟩ := hst
   obtain ⟨y0, y1, y2, y3, y4, y5, y6, yf⟩ := hMS.at_
   simp only [Nat.zero_add] at y1 y2 y3 y4 y5 y6
   have HK := Lib.hid hok
   clear hok
   by_cases hlt : k < q
   · obtain ⟨g, off, r, rfl, hg0, hg, hd, hr, q0, q1, q2, q3, q4, q5⟩ := at_Q hl hlt
     rw [hd] at hrel
     have t1 : (0 : Int) ≤ (k : Int) := by omega
     have t2 : (k : Int) < (q : Int) := by omega
     clear hd hr
     have hA := MS.zero hMS (Ex.ch (Ch.refl (fun _ => False) wr))
     by_cases hz : r = Sw.reqZ
     · subst hz
       rw [fold_zero] at hrel
       simp only [Sw.reqZ] at q0 q1 q2 q3 q4 q5
       by_cases hck : y.clock = 99999
       · rw [if_pos hck] at hrel
         have He := Lib.hid hrel
         have HC := Lib.hid hck
         clear hrel hck
         obtain ⟨hcz, hfz⟩ := Lb.rules hLr
         go_wp2_with fail
         apply Calls.mono
         apply (iTickEnd_c (t := y.clock) (aL := eL) (aLc := eLc) (aLn := eLn) (aP := eP) (aPc := ePc) (aPn := ePn) (aD := eD) (aDc := eDc) (aDn := eDn) (aN := eN) (aNc := eNc) (aNn := eNn) (aS := eS) (aSc := eSc) (aSn := eSn))
         · exact hMS.at_.keep kf_
         · exact HC.out
         rintro E w3 ⟨rfl, hb⟩
         obtain ⟨hc, hf, hz⟩ := xy hb
         go_wp2_with fail
         refine bodyPost_ret (v := .tuple #[.agg #[.slice none 0 0, .slice none 0 0, .slice none 0 0, .int .i64 0, .slice none 0 0, .slice none 0 0], .bool false]) (by simp [results, Tryz.results40, go_sem, *]) rfl ?_
         refine ⟨_, _, _, _, _, _, _, _, _, _, _, _, _, _, _, fun _ => 0, by rw [He.out]; rfl, ?_, ext_⟩
         rw [He.out]
         exact OwM.zero
       · rw [if_neg hck] at hrel
         have HKT := Lib.hid (Sw.tick_ok HK.out hck)
         have He := Lib.hid hrel
         have HC := Lib.hid hck
         clear hrel hck
         go_wp2_with fail
         apply Calls.mono
         apply (iTickS_c (hA.ex ext_).rebase HK.out HC.out)
         rintro E w6 ⟨fL, fLc, fLn, fP, fPc, fPn, fD, fDc, fDn, fN, fNc, fNn, fS, fSc, fSn, τ6, rfl, hm6⟩
         have hSn : ¬ SG w1.heap.size (w.heap.size + 1) (glue τ wr.heap.size (fun _ => 0)) w.heap.size := by
           rintro (h1 | ⟨h1, _⟩)
           · omega
           · omega
         have hex6 : Ex w w6 := Ch.trans' (show Ex w _ from ext_) hm6.ch (fun i hi h => by
           rcases h with h1 | ⟨h1, _⟩
           · have h1 : i = w1.heap.size := h1
             omega
           · omega)
         have hL6 : Lb w6 w.heap.size 6 := Lb.chk hm6.ch (by exact lbc_) hSn
         have ht6 : τ6 w.heap.size = 0 := (hm6.tag _ sz_).trans ((if_pos (by omega)).trans ht0)
         have hz6 := hm6.ch.size
         (try simp only [zq_] at hz6)
         have hm7 := (hm6.zero (Ch.refl (fun _ => False) w6)).rebase
         clear hm6
         go_wp2_with fail
         go_roundw
         case rel =>
           exact ⟨k + 1, _, _, _, _, _, _, _, _, _, _, _, _, _, _, _, Sw.tick y, rows, glue τ6 w6.heap.size (fun _ => 0), by omega, by go_num, hex6, hL6, by omega, hm7, (if_pos (by omega)).trans ht6, fun b hb => glue0 hb, HKT.out, He.out⟩
         case measure => simp [intOf]; omega
     · rw [fold_req hz] at hrel
       have hz2 : decide (r = Sw.reqZ) = false := decide_eq_false hz
       rw [req_zero] at hz2
       have Hz2 := Lib.hid hz2
       obtain ⟨ru, rn, rk, rt, rh, rp⟩ := r
       dsimp only at q0 q1 q2 q3 q4 q5
       have Hrel := Lib.hid hrel
       clear hz hz2 hrel
       go_upto_region 8 with fail
       go_cut [30] (fun p wx => p = .bool false ∧ wx = wr.alloc (.cells #[.int .i64 ru, .int .i64 rn, .int .i64 rk, .int .i64 rt, .int .i64 rh, .int .i64 rp] 82))
       case first =>
         go_wp2_with fail
         all_goals go_meet
         all_goals first | exact ⟨rfl, by simp [*]⟩ | (exfalso; have := Hz2.out; simp_all)
       case rest =>
         obtain ⟨rfl, rfl⟩ := hcut
         cases hq : Sw.reqOk ⟨ru, rn, rk, rt, rh, rp⟩
         · have e1 : Sw.wldFold fs ls = none := by rw [Hrel.out, hq]; rfl
           have He := Lib.hid e1
           clear e1
           obtain ⟨hcz, hfz⟩ := Lb.rules hLr
           go_wp2_with (go_at_call 109; apply Calls.mono; apply (iReqOk_c ⟨ru, rn, rk, rt, rh, rp⟩); rintro E w3 ⟨rfl, hb⟩; rw [hq]; obtain ⟨hc, hf, hz⟩ := xy hb)
           refine bodyPost_ret (v := .tuple #[.agg #[.slice none 0 0, .slice none 0 0, .slice none 0 0, .int .i64 0, .slice none 0 0, .slice none 0 0], .bool false]) (by simp [results, Tryz.results40, go_sem, *]) rfl ?_
           refine ⟨_, _, _, _, _, _, _, _, _, _, _, _, _, _, _, fun _ => 0, by rw [He.out]; rfl, ?_, ext_⟩
           rw [He.out]
           exact OwM.zero
         · have e1 : Sw.wldFold fs ls = Sw.foldLines (Sw.doIt y ⟨ru, rn, rk, rt, rh, rp⟩).1 (ls.drop (k + 1)) := by rw [Hrel.out, hq]; rfl
           have He := Lib.hid e1
           have HQ := Lib.hid hq
           have HKD := Lib.hid (Sw.doIt_ok HK.out hq)
           clear e1
           go_wp2_with (go_at_call 109; apply Calls.mono; apply (iReqOk_c ⟨ru, rn, rk, rt, rh, rp⟩); rintro E w3 ⟨rfl, hb⟩; rw [hq]; obtain ⟨hc, hf, hz⟩ := xy hb)
           apply Calls.mono
           apply (iDo_c (hA.ex (show Ex wr _ from ext_)).rebase ⟨ru, rn, rk, rt, rh, rp⟩ HK.out HQ.out)
           rintro E w6 ⟨fL, fLc, fLn, fP, fPc, fPn, fD, fDc, fDn, fN, fNc, fNn, fS, fSc, fSn, τ6, rfl, hm6⟩
           have hSn : ¬ SG w1.heap.size (w.heap.size + 1) (glue τ wr.heap.size (fun _ => 0)) w.heap.size := by
             rintro (h1 | ⟨h1, _⟩)
             · omega
             · omega
           have hex6 : Ex w w6 := Ch.trans' (show Ex w _ from ext_) hm6.ch (fun i hi h => by
             rcases h with h1 | ⟨h1, _⟩
             · have h1 : i = w1.heap.size := h1
               omega
             · omega)
           have hL6 : Lb w6 w.heap.size 6 := Lb.chk hm6.ch (by exact lbc_) hSn
           have ht6 : τ6 w.heap.size = 0 := (hm6.tag _ sz_).trans ((if_pos (by omega)).trans ht0)
           have hz6 := hm6.ch.size
           (try simp only [zq_] at hz6)
           have hm7 := (hm6.zero (Ch.refl (fun _ => False) w6)).rebase
           clear hm6
           obtain ⟨v, hv⟩ : ∃ v, v = Sw.doIt y ⟨ru, rn, rk, rt, rh, rp⟩ := ⟨_, rfl⟩
           rw [← hv] at hm7 ⊢
           have Hv := Lib.hid hv
           clear hv
           go_wp2_with fail
           go_roundw
           case rel =>
             obtain ⟨rows3, hok3⟩ := HKD.out
             rw [← Hv.out] at hok3
             exact ⟨k + 1, _, _, _, _, _, _, _, _, _, _, _, _, _, _, _, v.1, rows3, glue τ6 w6.heap.size (fun _ => 0), by omega, by go_num, hex6, hL6, by omega, hm7, (if_pos (by omega)).trans ht6, fun b hb => glue0 hb, hok3, by rw [He.out, ← Hv.out]⟩
           case measure => simp [intOf]; omega
   · have e1 : Sw.wldFold fs ls = some y := by rw [hrel, List.drop_of_length_le (by have := hll.out; omega)]; rfl
     have He := Lib.hid e1
     have hsm := MOk.small HK.out hMS.ow.rm
     clear hrel e1
     obtain ⟨hcz, hfz⟩ := Lb.rules hLr
     go_wp2_with (go_at_call 111; apply Calls.mono; apply iMktClone_c; (apply OwM.rm0 hMS.ow; (exact kf_)); omega; rintro E w5 ⟨fL, fLc, fLn, fP, fPc, fPn, fD, fDc, fDn, fN, fNc, fNn, fS, fSc, fSn, τ5, rfl, ho5, hb⟩; obtain ⟨hc, hf, hz⟩ := xy hb)
     refine bodyPost_ret (v := .tuple #[.agg #[.slice fL fLn fLc, .slice fP fPn fPc, .slice fD fDn fDc, .int .i64 y.clock, .slice fN fNn fNc, .slice fS fSn fSc], .bool true]) (by simp [results, Tryz.results40, go_sem, *]) rfl ?_
     refine ⟨_, _, _, _, _, _, _, _, _, _, _, _, _, _, _, τ5, by rw [He.out]; rfl, ?_, ext_⟩
     rw [He.out]
     exact OwM.less (ho5.keepF kf_) sz_
end Go.Proofs.YtnnoiagommiapaaGreat
