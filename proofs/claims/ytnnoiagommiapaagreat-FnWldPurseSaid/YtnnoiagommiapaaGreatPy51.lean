/- Texts joined: DrY. -/
import Derived.Test.YtnnoiagommiapaaGreatPy50
import Derived.Test.YtnnoiagommiapaaGreatPy43
import Derived.Test.YtnnoiagommiapaaGreatPy49
set_option maxRecDepth 100000
set_option linter.unusedSimpArgs false
set_option linter.unusedVariables false
namespace Go.Proofs.YtnnoiagommiapaaGreat
open Go.RowKit Go
set_option maxHeartbeats 4000000
theorem WS.boxedL {g lo : Nat} {τ : Nat → Nat} {w w1 : World} {aF : Option Addr} {aFc aFn : Nat} {aL : Option Addr} {aLc aLn : Nat} {aP : Option Addr} {aPc aPn : Nat} {aD : Option Addr} {aDc aDn : Nat} {aN : Option Addr} {aNc aNn : Nat} {aS : Option Addr} {aSc aSn : Nat} {aI : Option Addr} {aIc aIn : Nat} {aG : Option Addr} {aGc aGn : Nat} {aB : Option Addr} {aBc aBn : Nat} {x : Sw.World} (h : OwW fdS fpS τ w lo aF aFc aFn aL aLc aLn aP aPc aPn aD aDc aDn aN aNc aNn aS aSc aSn aI aIc aIn aG aGc aGn aB aBc aBn x) (hb : KF lo w w1) (hA : WAt w1 g aF aFc aFn aL aLc aLn aP aPc aPn aD aDc aDn aN aNc aNn aS aSc aSn aI aIc aIn aG aGc aGn aB aBc aBn x.market.clock) (hL : Lb w1 g 10) (hg : g < lo) (hlo : lo ≤ w.heap.size) : ∃ τ', WS g lo τ' w1 aF aFc aFn aL aLc aLn aP aPc aPn aD aDc aDn aN aNc aNn aS aSc aSn aI aIc aIn aG aGc aGn aB aBc aBn x τ' w1 :=
 ⟨_, WS.start ((OwW.glueR (τ' := fun _ => 0) h.loose (Nat.le_refl _)).keepF hb) hA hL (if_pos hg) (Nat.le_trans hlo hb.size)⟩
section
variable {g lo : Nat} {τ0 τ τ' : Nat → Nat} {w0 w w' w1 : World} {aF : Option Addr} {aFc aFn : Nat} {aL : Option Addr} {aLc aLn : Nat} {aP : Option Addr} {aPc aPn : Nat} {aD : Option Addr} {aDc aDn : Nat} {aN : Option Addr} {aNc aNn : Nat} {aS : Option Addr} {aSc aSn : Nat} {aI : Option Addr} {aIc aIn : Nat} {aG : Option Addr} {aGc aGn : Nat} {aB : Option Addr} {aBc aBn : Nat} {x : Sw.World}
theorem WS.gatedX (h : WS g lo τ0 w0 aF aFc aFn aL aLc aLn aP aPc aPn aD aDc aDn aN aNc aNn aS aSc aSn aI aIc aIn aG aGc aGn aB aBc aBn x τ w) {A : Option Addr} {c k : Nat} {gs : List Sw.Gate} (hG : OwG fdL τ' w' lo A c k gs) (tg : ∀ b, b < w.heap.size → τ' b = τ b) (hc : Ch (atA aG) w w') :
   WS g lo τ0 w0 aF aFc aFn aL aLc aLn aP aPc aPn aD aDc aDn aN aNc aNn aS aSc aSn aI aIc aIn A c k aB aBc aBn { x with gates := gs } τ' (w'.setCell ⟨g, 8, none⟩ (.slice A k c)) := by
 obtain ⟨vs, v1, _⟩ := h.ow.gates.ex
 have hS : ¬ atA aG g := fun ⟨a, ha, e⟩ => by have := v1.tag a ha; have := h.g0; rw [← e] at *; omega
 have hk := hc.block g h.at_.lt hS
 have hcc : ∀ i : Nat, w'.cell? ⟨g, i, none⟩ = w.cell? ⟨g, i, none⟩ := fun i => World.cell?_of_block (w := w) (a := ⟨g, i, none⟩) hk
 have K : ∀ t, t ≠ 8 → KT τ' t lo w w' := fun t ht => KT.retag (KT.ch hc (KT.refl _ _ _ _) fun i ⟨a, ha, hi⟩ => .inr (by rw [hi, v1.tag a ha]; exact Ne.symm ht)) tg
 have hw : OwW fdL fpL τ' w' lo aF aFc aFn aL aLc aLn aP aPc aPn aD aDc aDn aN aNc aNn aS aSc aSn aI aIc aIn A c k aB aBc aBn { x with gates := gs } :=
   ⟨(h.ow.first.retag tg).keep (K 6 (by decide)), (h.ow.mkt.retag tg).keep fun t h1 h5 => K t (by omega), (h.ow.lines.retag tg).keep (K 7 (by decide)), hG, (h.ow.bag.retag tg).keep (K 9 (by decide)) fun j => K _ (by unfold fpL; omega)⟩
 refine h.trans ⟨?_, (h.at_.apart hc hS).setW (.inr (by omega)), ?_, World.cell?_setCell_same _ _ _ ((hcc 8).trans h.gates), ?_, (h.lb.chk hc hS).set, hw.cell ((tg g h.at_.lt).trans h.g0) _ _, tg, cS (Ch.mono hc fun i _ ⟨a, ha, e⟩ => .inr ?_) (.inl (.inl rfl)) _, h.at_.lt, h.g0, h.lo_le⟩
 · exact (World.cell?_setCell_other _ _ _ _ (cne (by omega))).trans ((hcc 0).trans h.first)
 · exact (World.cell?_setCell_other _ _ _ _ (cne (by omega))).trans ((hcc 7).trans h.lines)
 · exact (World.cell?_setCell_other _ _ _ _ (cne (by omega))).trans ((hcc 9).trans h.bag)
 · subst e
   have h1 := v1.ow.blk ha
   have h2 := v1.tag a ha
   exact ⟨h1.1, by omega⟩
theorem WS.gatedR (h : WS g lo τ0 w0 aF aFc aFn aL aLc aLn aP aPc aPn aD aDc aDn aN aNc aNn aS aSc aSn aI aIc aIn aG aGc aGn aB aBc aBn x τ w) {gG k : Nat} {y : Sw.Gate} {B : Option Addr} {d n : Nat} (hA : aG = some ⟨gG, 0, none⟩) (hk : k < aGn) {l : Nat} (hd : RI w l B d n y.done) (hl : lo ≤ l) (hl2 : gG < l) :
   RW (setCells w gG (k * 4) (GV.enc ⟨y.head, B, d, n⟩)) lo aF aFc aFn aL aLc aLn aP aPc aPn aD aDc aDn aN aNc aNn aS aSc aSn aI aIc aIn aG aGc aGn aB aBc aBn { x with gates := x.gates.set k y } := by
 obtain ⟨vs, v1, v2, v3⟩ := h.ow.gates.ex
 have hgG := v1.ow.blk hA
 dsimp only at hgG
 have tG : τ gG = 8 := v1.tag _ hA
 have hset : Ch (· = gG) w (setCells w gG (k * 4) (GV.enc ⟨y.head, B, d, n⟩)) := setCells_ch (Ch.refl _ _) rfl
 have K : ∀ t, t ≠ 8 → KT τ t lo w (setCells w gG (k * 4) (GV.enc ⟨y.head, B, d, n⟩)) := fun t h8 => KT.ch hset (KT.refl _ _ _ _) fun i hi => .inr (by rw [show i = gG from hi, tG]; exact Ne.symm h8)
 have hp := Ow.put v1.ow (fun _ => rfl) ⟨y.head, B, d, n⟩ hA hk
 refine ⟨(h.ow.first.keep (K 6 (by decide))).rs, (h.ow.mkt.keep fun t h1 h5 => K t (by omega)).rm, (h.ow.lines.keep (K 7 (by decide))).rs, ⟨_, hp.rs, by rw [List.length_set]; exact v2, fun j v z hv hz' => ?_⟩, (h.ow.bag.keep (K 9 (by decide)) fun j => K _ (by unfold fpL; omega)).rx⟩
 rw [List.getElem?_set] at hv hz'
 by_cases hjk : k = j
 · subst hjk
   rw [if_pos rfl, if_pos (by rw [← v1.ow.1]; exact hk)] at hv
   rw [if_pos rfl, if_pos (by omega)] at hz'
   cases hv; cases hz'
   exact ⟨rfl, (hd.keep (kC hset (kR _ _) (.inl hl2))).less hl⟩
 · rw [if_neg hjk] at hv hz'
   obtain ⟨e, hr⟩ := v3 j v z hv hz'
   exact ⟨e, (hr.keep (K _ (by unfold fdL; omega))).rs⟩
theorem WS.sentR (h : WS g lo τ0 w0 aF aFc aFn aL aLc aLn aP aPc aPn aD aDc aDn aN aNc aNn aS aSc aSn aI aIc aIn aG aGc aGn aB aBc aBn x τ w) {r : Nat} {m : Sw.Msg} {vs : List XV} {A1 : Option Addr} {c1 : Nat} {w2 : World} (hm : Ch (· = r) w w1) (hr1 : r < lo) (hr2 : g ≠ r) (hp : m.proof = []) (h1 : OwTX τ 9 w lo aB aBc aBn vs) (h2 : aBn = x.bag.length)
   (h3 : ∀ (j : Nat) (v : XV) (g : Sw.Msg), vs[j]? = some v → x.bag[j]? = some g → v.g = g.gate ∧ v.h = g.head ∧ OwTI τ (fpL j) w lo v.A v.c v.n g.proof)
   (ho : OwXV w2 lo A1 c1 (aBn + 1) (vs ++ [⟨m.gate, m.head, none, 0, 0⟩])) (hc : Ch (atA aB) w1 w2) (hat : ∀ b, A1 = some b → aB = some b ∨ w1.heap.size ≤ b.block) :
   RW (w2.setCell ⟨g, 9, none⟩ (.slice A1 (aBn + 1) c1)) lo aF aFc aFn aL aLc aLn aP aPc aPn aD aDc aDn aN aNc aNn aS aSc aSn aI aIc aIn aG aGc aGn A1 c1 (aBn + 1) { x with bag := x.bag ++ [m] } := by
 have k : KF lo w w1 := kC hm (kR _ _) (.inl hr1)
 exact ((h.move hm hr1 hr2).sent (h1.keepF k) h2 (fun j v g a b => ⟨(h3 j v g a b).1, (h3 j v g a b).2.1, (h3 j v g a b).2.2.keepF k⟩) (Ch.refl _ _) (hp ▸ Ow.nil _ _) ho hc hat).ow.rw_
end
theorem dsz_set : ∀ (gs : List Sw.Gate) (k : Nat) (y : Sw.Gate), dsz (gs.set k y) ≤ dsz gs + y.done.length
 | [], k, y => by simp [dsz]
 | g :: gs, 0, y => by simp [dsz]; omega
 | g :: gs, k + 1, y => by have := dsz_set gs k y; simp [dsz] at this ⊢; omega
theorem wok_small {w : World} {lo : Nat} {aF : Option Addr} {aFc aFn : Nat} {aL : Option Addr} {aLc aLn : Nat} {aP : Option Addr} {aPc aPn : Nat} {aD : Option Addr} {aDc aDn : Nat} {aN : Option Addr} {aNc aNn : Nat} {aS : Option Addr} {aSc aSn : Nat} {aI : Option Addr} {aIc aIn : Nat} {aG : Option Addr} {aGc aGn : Nat} {aB : Option Addr} {aBc aBn : Nat} {x : Sw.World} (hW : RW w lo aF aFc aFn aL aLc aLn aP aPc aPn aD aDc aDn aN aNc aNn aS aSc aSn aI aIc aIn aG aGc aGn aB aBc aBn x) (h : Sw.WOk x) : aFn + (aLn + aPn + aDn + aNn + aSn) + aIn + (aGn + dsz x.gates) + (aBn + psz x.bag) ≤ 10000 ∧ aIn ≤ 300 ∧ aGn = 2 ∧ aBn ≤ 6 := by
 obtain ⟨rows, hm⟩ := Sw.mktOk_iff.1 h.mkt
 obtain ⟨m1, m2, m3, m4, m5⟩ := MOk_len hm
 have f1 := (Sw.monOk_iff.1 h.first).1
 have g1 := dsz_le h.gok
 have g2 := psz_le h.bok
 have g3 := h.glen
 have g4 := h.blen
 have g5 := h.lines
 have a1 := hW.first.1
 have a2 := hW.mkt.log.1
 have a3 := hW.mkt.purses.1
 have a4 := hW.mkt.deals.1
 have a5 := hW.mkt.nums.1
 have a6 := hW.mkt.said.1
 have a7 := hW.lines.1
 have a8 := hW.gates.len.1
 have a9 := hW.bag.len.1
 omega
theorem l21BadWorld_c (rb P : Nat) (aF : Option Addr) (aFc aFn : Nat) (aL : Option Addr) (aLc aLn : Nat) (aP : Option Addr) (aPc aPn : Nat) (aD : Option Addr) (aDc aDn : Nat) (aN : Option Addr) (aNc aNn : Nat) (aS : Option Addr) (aSc aSn : Nat) (aI : Option Addr) (aIc aIn : Nat) (aG : Option Addr) (aGc aGn : Nat) (aB : Option Addr) (aBc aBn : Nat) (x : Sw.World) (w : World) (hr : Rdp w rb P) (hok : Sw.WOk x) (hW : RW w (rb + 1) aF aFc aFn aL aLc aLn aP aPc aPn aD aDc aDn aN aNc aNn aS aSc aSn aI aIc aIn aG aGc aGn aB aBc aBn x) (hP : P ≤ 700000) : Calls Tryz.prog 94 #[.pointer (some ⟨rb, 0, none⟩), .agg #[.slice aF aFn aFc, .slice aL aLn aLc, .slice aP aPn aPc, .slice aD aDn aDc, .int .i64 x.market.clock, .slice aN aNn aNc, .slice aS aSn aSc, .slice aI aIn aIc, .slice aG aGn aGc, .slice aB aBn aBc]] w fun E w' => ∃ (bF : Option Addr) (bFc bFn : Nat) (bL : Option Addr) (bLc bLn : Nat) (bP : Option Addr) (bPc bPn : Nat) (bD : Option Addr) (bDc bDn : Nat) (bN : Option Addr) (bNc bNn : Nat) (bS : Option Addr) (bSc bSn : Nat) (bI : Option Addr) (bIc bIn : Nat) (bG : Option Addr) (bGc bGn : Nat) (bB : Option Addr) (bBc bBn : Nat) (z : Sw.World), E = .returned (.agg #[.slice bF bFn bFc, .slice bL bLn bLc, .slice bP bPn bPc, .slice bD bDn bDc, .int .i64 z.market.clock, .slice bN bNn bNc, .slice bS bSn bSc, .slice bI bIn bIc, .slice bG bGn bGc, .slice bB bBn bBc]) ∧ RW w' w.heap.size bF bFc bFn bL bLc bLn bP bPc bPn bD bDc bDn bN bNc bNn bS bSc bSn bI bIc bIn bG bGc bGn bB bBc bBn z ∧ bFn + (bLn + bPn + bDn + bNn + bSn) + bIn + (bGn + dsz z.gates) + (bBn + psz z.bag) ≤ 1048576 ∧ Rdp w' rb (P + 100) ∧ Ch (· = rb) w w' := by
 have hlt := hr.lt
 have hn := wok_size hW hok
 have hns := wok_small hW hok
 have b1 := hW.first.1
 have b2 := hW.mkt.log.1
 have b3 := hW.mkt.purses.1
 have b4 := hW.mkt.deals.1
 have b5 := hW.mkt.nums.1
 have b6 := hW.mkt.said.1
 have b7 := hW.lines.1
 have b8 := hW.gates.len.1
 have b9 := hW.bag.len.1
 have HNS := Lib.hid (show x.first.length + (x.market.log.length + x.market.purses.length + x.market.deals.length + x.market.nums.length + x.market.said.length) + x.lines.length + (x.gates.length + dsz x.gates) + (x.bag.length + psz x.bag) ≤ 10000 ∧ x.lines.length ≤ 300 ∧ x.gates.length = 2 ∧ x.bag.length ≤ 6 by omega)
 clear hns b1 b2 b3 b4 b5 b6 b7 b8 b9
 obtain ⟨rows, hmo⟩ := Sw.mktOk_iff.1 hok.mkt
 have HML := Lib.hid (MOk_len hmo)
 have HG2 := Lib.hid hok.glen
 clear hmo hok
 go_enter Tryz.func94, Tryz.ntmps94
 go_upto_region 2 with (go_at_call 64; apply Calls.mono; apply (sWldCopy_c (x := x)); (apply RW.at0 hW; (exact kf_)); exact hn; rintro E w5 ⟨dF, dFc, dFn, dL, dLc, dLn, dP, dPc, dPn, dD, dDc, dDn, dN, dNc, dNn, dS, dSc, dSn, dI, dIc, dIn, dG, dGc, dGn, dB, dBc, dBn, τ5, rfl, ho5, hb⟩; obtain ⟨hc, hf, hz⟩ := xy hb)
 (refine wn_ fun W0 hb0 hc0 hf0 hz0 => ?_)
 have hA0 : WAt W0 w.heap.size dF dFc dFn dL dLc dLn dP dPc dPn dD dDc dDn dN dNc dNn dS dSc dSn dI dIc dIn dG dGc dGn dB dBc dBn x.market.clock := ⟨sz_, co_, co_, co_, co_, co_, co_, co_, co_, co_, co_, fun i => co_⟩
 have hL0 : Lb W0 w.heap.size 10 := by
   (repeat (first | with_reducible apply Lb.set | with_reducible apply Lb.drew | (with_reducible refine Lb.ex ?_ (by assumption))))
   exact Lb.alloc (Lb.new rfl rfl)
 have hLr : Lb W0 (w.heap.size + 1) 10 := lbc_
 have ho6 := ho5.less (show w.heap.size + 2 ≤ _ from sz_)
 obtain ⟨τ0, hS0⟩ := WS.boxedL ho6 (show KF (w.heap.size + 2) w5 W0 from kf_) hA0 hL0 (by omega) sz_
 have hrd0 := hr.keep (show KB rb w W0 from kb_)
 have hcq : Ch (· = rb) w W0 := ext_
 have hzq : w.heap.size + 2 ≤ W0.heap.size := sz_
 have hlo2 : w.heap.size + 2 ≤ w.heap.size + 1 + 1 := Nat.le_refl _
 clear hA0 hL0 hb hc hf hb0 hc0 hf0 hW hr ho5 ho6
 obtain ⟨Wq, hWq⟩ : ∃ z, z = W0 := ⟨_, rfl⟩
 subst hWq
 have HS0 := Lib.hid hS0
 have HCQ := Lib.hid hcq
 have HLR := Lib.hid hLr
 clear hS0 hcq hLr hlo2
 go_upto_region 4 with (go_at_call 92; apply Calls.mono; apply pick_c; (apply Rdp.keep; assumption; (exact kb_)); (first | assumption | omega); (first | assumption | omega); rintro E w1 ⟨v, rfl, ⟨hv0, hv1⟩, hrd, hb⟩; obtain ⟨hc, hf, hz⟩ := xd hb)
 (refine wn_ fun W0 hb0 hc0 hf0 hz0 => ?_)
 have hS := HS0.out.move (show Ch (· = rb) Wq W0 from ext_) (show rb < w.heap.size + 2 by omega) (show w.heap.size ≠ rb by omega)
 have hL1 : Lb W0 (w.heap.size + 1) 10 := Lb.chk (show Ch (· = rb) Wq W0 from ext_) HLR.out (show ¬ (w.heap.size + 1 = rb) by omega)
 have hcq : Ch (· = rb) w W0 := Ch.trans HCQ.out (by exact ext_)
 have hrd1 := hrd.keep (show KB rb w1 W0 from kb_)
 have hzw : w.heap.size + 2 ≤ W0.heap.size := sz_
 clear hb0 hc0 hf0 hb hc hf hrd hrd0 HS0 HCQ HLR
 obtain ⟨Wp, hWp⟩ : ∃ z, z = W0 := ⟨_, rfl⟩
 subst hWp
 obtain ⟨hgl, r0, r1, r2, r3, r4, r5, r6, r7, r8, r9, rf⟩ := hS.wat
 obtain ⟨hcz, hfz⟩ := Lb.rules hL1
 have hM := hS.ow.mkt.rm
 have HS := Lib.hid hS
 have lm1 := hS.ow.mkt.log.ow.1
 have lm2 := hS.ow.mkt.purses.ow.1
 have lm3 := hS.ow.mkt.deals.ow.1
 have lm4 := hS.ow.mkt.nums.ow.1
 have lm5 := hS.ow.mkt.said.ow.1
 have HLM := Lib.hid (show dLn + dPn + dDn + dNn + dSn ≤ 100 ∧ dNn = 5 ∧ dSn = 5 ∧ dLn ≤ 40 by have h := HML.out; omega)
 have HLS := Lib.hid (show dFn + (dLn + dPn + dDn + dNn + dSn) + dIn + (dGn + dsz x.gates) + (dBn + psz x.bag) ≤ 10000 ∧ dIn ≤ 300 ∧ dGn = 2 ∧ dBn ≤ 6 by have h := HNS.out; have q1 := hS.ow.first.ow.1; have q2 := hS.ow.lines.ow.1; have q3 := hS.ow.gates.rg.len.1; have q4 := hS.ow.bag.rx.len.1; omega)
 clear hS lm1 lm2 lm3 lm4 lm5
 rcases (show v = 0 ∨ v = 1 ∨ v = 2 ∨ v = 3 ∨ v = 4 ∨ v = 5 by omega) with rfl | rfl | rfl | rfl | rfl | rfl
 · clear hv0 hv1
   go_wp2_with (go_at_call 173; apply Calls.mono; apply (l21Bad_c (mk := x.market)); (apply Rdp.keep; assumption; (exact kb_)); (exact (hM.keep kf_).less (by omega)); (exact HLM.out.1); (exact HLM.out.2.1); (exact HLM.out.2.2.1); omega; rintro E w6 ⟨eL, eLc, eLn, eP, ePc, ePn, eD, eDc, eDn, eN, eNc, eNn, eS, eSc, eSn, mk, rfl, hrm, hle, hrd, hb⟩; (obtain ⟨hc, hf, hz⟩ := xd hb))
   refine bodyPost_ret (v := .agg #[.slice dF dFn dFc, .slice eL eLn eLc, .slice eP ePn ePc, .slice eD eDn eDc, .int .i64 mk.clock, .slice eN eNn eNc, .slice eS eSn eSc, .slice dI dIn dIc, .slice dG dGn dGc, .slice dB dBn dBc]) (by simp [results, Tryz.results94, go_sem, *]) rfl ?_
   exact ⟨dF, dFc, dFn, eL, eLc, eLn, eP, ePc, ePn, eD, eDc, eDn, eN, eNc, eNn, eS, eSc, eSn, dI, dIc, dIn, dG, dGc, dGn, dB, dBc, dBn, { x with market := mk }, rfl, ⟨((HS.out.ow.first.ow.rs).keep kf_).less (by omega), (hrm.keep kf_).less sz_, ((HS.out.ow.lines.ow.rs).keep kf_).less (by omega), ((HS.out.ow.gates.rg).keep kf_).less (by omega), ((HS.out.ow.bag.rx).keep kf_).less (by omega)⟩, by have := HLS.out; dsimp only; omega, (Rdp.keep hrd kb_).more (by omega), ext_⟩
 · clear hv0 hv1
   go_wp2_with (first | (go_at_call 107; apply Calls.mono; apply l20Purses_c; (apply Rdp.keep; assumption; (exact kb_)); (first | assumption | omega); (first | assumption | omega); (first | assumption | omega); rintro E w1 ⟨A, c, m, xs, rfl, hps, hpl, hrd, hb⟩; obtain ⟨hc, hf, hz⟩ := xd hb) | fail)
   refine bodyPost_ret (v := .agg #[.slice A m c, .slice dL dLn dLc, .slice dP dPn dPc, .slice dD dDn dDc, .int .i64 x.market.clock, .slice dN dNn dNc, .slice dS dSn dSc, .slice dI dIn dIc, .slice dG dGn dGc, .slice dB dBn dBc]) (by simp [results, Tryz.results94, go_sem, *]) rfl ?_
   exact ⟨A, c, m, dL, dLc, dLn, dP, dPc, dPn, dD, dDc, dDn, dN, dNc, dNn, dS, dSc, dSn, dI, dIc, dIn, dG, dGc, dGn, dB, dBc, dBn, { x with first := xs }, rfl, ⟨(hps.keep kf_).less sz_, (HS.out.ow.mkt.rm.keep kf_).less (by omega), ((HS.out.ow.lines.ow.rs).keep kf_).less (by omega), ((HS.out.ow.gates.rg).keep kf_).less (by omega), ((HS.out.ow.bag.rx).keep kf_).less (by omega)⟩, by have := HLS.out; dsimp only; omega, (Rdp.keep hrd kb_).more (by omega), ext_⟩
 · clear hv0 hv1
   have hoI := HS.out.ow.lines.ow
   have hli := HLS.out.2.1
   go_upto_region 9 with fail
   (focus (refine wn_ fun W0 hb0 hc0 hf0 hz0 => ?_; refine wp_regionX [9, 10, 11] (S := fun w' => HeldR rb W0 w') hdR (fun hHeld => ?_); refine GoesX.take 0 36 [1, 9, 10, 11] hHeld (h := ?_); refine GoesX.take 1 37 [9, 10, 11] hHeld (h := ?_); refine GoesX.take 2 38 [3, 5, 6, 7, 8, 9, 10, 11] hHeld (h := ?_); refine GoesX.take 4 40 [5, 6, 7, 8, 9, 10, 11] hHeld (h := ?_); refine GoesX.one 3 (h := fun K hK => ?_); go_simp; (go_at_call 92; apply Calls.mono; apply pick_c; (apply Rdp.keep; assumption; (exact kb_)); (first | assumption | omega); (first | assumption | omega); rintro E w1 ⟨v, rfl, ⟨hv0, hv1⟩, hrd, hb⟩; obtain ⟨hc, hf, hz⟩ := xd hb); (try go_wp2_with fail); refine outS hK hdR (h := ?_); clear hK K hHeld; intro hHeld; refine GoesX.one 5 (h := fun K hK => ?_); go_simp; (go_at_call 92; apply Calls.mono; apply pick_c; (apply Rdp.keep; assumption; (exact kb_)); (first | assumption | omega); (first | assumption | omega); rintro E w1 ⟨v, rfl, ⟨hv0, hv1⟩, hrd, hb⟩; obtain ⟨hc, hf, hz⟩ := xd hb); (try go_wp2_with fail); refine outS hK hdR (h := ?_); clear hK K hHeld; intro hHeld; refine GoesX.take 6 42 [7, 8, 9, 10, 11] hHeld (h := ?_); refine GoesX.take 7 43 [8, 9, 10, 11] hHeld (h := ?_); refine GoesX.one 8 (h := fun K hK => ?_); go_simp; refine outS hK hdR (h := ?_); clear hK K hHeld; intro hHeld; refine GoesX.oneX 9 (h := fun K hK => ?_); (apply step_app (lo := w.heap.size + 2) el_Q one_Q rfl rfl rfl rfl; (first | assumption | exact Ow.nil _ _ | (apply Ow.keep; assumption; exact kf_) | (refine own_)); (first | (refine Rs.new [⟨_, _, 0, 0, 0, 0⟩] (by (first | rfl | (simp only [zq_]; done) | omega)) rfl rfl (fun _ => rfl) (by omega))); omega; exact sz_; intro A1 c1 w2 ho1 hch1 hat1 hex1 hlow1; have hb := hex1 (· = rb) w (by exact ext_) (by omega); have hrd := Rdp.low (Rdp.keep (by assumption) (by exact kb_)) hch1.size hlow1 (by omega); have hz := hch1.size; (try simp only [zq_] at hz); obtain ⟨hc, hf⟩ := low_rules hlow1; clear hex1); refine outX hK (h := ?_); clear hK K; refine GoesX.takeX 10 46 (h := ?_); refine GoesX.oneX 11 (h := fun K hK => ?_); go_simp; refine outX hK (h := ?_); clear hK K; refine GoesX.done (by kernel_rfl) ?_ _))
   all_goals go_wp2_with fail
   all_goals obtain ⟨ls5, hls5⟩ : ∃ ls, OwQ w2 (w.heap.size + 2) A1 c1 (dIn + 1) ls := ⟨_, ho1⟩
   all_goals have hS5 := WS.lined (HS.out.move (by exact ext_) (show rb < w.heap.size + 2 by omega) (show w.heap.size ≠ rb by omega)) hls5 hch1 hat1
   all_goals have hR5 := hS5.ow.rw_
   all_goals clear hS5
   all_goals (refine bodyPost_ret (v := .agg #[.slice dF dFn dFc, .slice dL dLn dLc, .slice dP dPn dPc, .slice dD dDn dDc, .int .i64 x.market.clock, .slice dN dNn dNc, .slice dS dSn dSc, .slice A1 (dIn + 1) c1, .slice dG dGn dGc, .slice dB dBn dBc]) (by simp [results, Tryz.results94, go_sem, *]) rfl ?_)
   all_goals refine ⟨dF, dFc, dFn, dL, dLc, dLn, dP, dPc, dPn, dD, dDc, dDn, dN, dNc, dNn, dS, dSc, dSn, A1, c1, dIn + 1, dG, dGc, dGn, dB, dBc, dBn, { x with lines := ls5 }, rfl, ?_, ?_, (Rdp.keep hrd kb_).more (by omega), ext_⟩
   all_goals first | exact RW.less (RW.keep hR5 kf_) (by omega) | (have h := HLS.out; dsimp only; omega)
 · clear hv0 hv1
   obtain ⟨vs, hv1, hv2, hv3⟩ := HS.out.ow.gates.ex
   have hoG := hv1.ow
   have HV1 := Lib.hid hv1
   have HV2 := Lib.hid hv2
   have HV3 := Lib.hid hv3
   have hgl : dGn ≤ 2 := by have := HLS.out.2.2.1; omega
   obtain ⟨h0, hh0⟩ : ∃ h, h = (Sw.hedOf []).getD Sw.headZ := ⟨_, rfl⟩
   have HH := Lib.hid hh0
   clear hv1 hv2 hv3 hh0
   go_upto_region 11 with fail
   (focus (refine wn_ fun W0 hb0 hc0 hf0 hz0 => ?_; refine wp_regionX [4, 5, 6] (S := fun w' => Held W0 w') hdH (fun hHeld => ?_); refine GoesX.take 0 49 [1, 4, 5, 6] hHeld (h := ?_); refine GoesX.take 1 50 [4, 5, 6] hHeld (h := ?_); refine GoesX.one 2 (h := fun K hK => ?_); go_simp; (go_at_call 174; apply Calls.mono; apply sGatNew_c; rintro E w6 ⟨rfl, hb⟩; rw [← HH.out]; obtain ⟨hc, hf, hz⟩ := xy hb); (try go_wp2_with fail); refine outS hK hdH (h := ?_); clear hK K hHeld; intro hHeld; refine GoesX.one 3 (h := fun K hK => ?_); go_simp; refine outS hK hdH (h := ?_); clear hK K hHeld; intro hHeld; refine GoesX.oneX 4 (h := fun K hK => ?_); (apply step_app (lo := w.heap.size + 2) el_G one_G rfl rfl rfl rfl; (first | assumption | exact Ow.nil _ _ | (apply Ow.keep; assumption; exact kf_) | (refine own_)); (first | (refine Rs.new [⟨h0, none, 0, 0⟩] (by (first | rfl | (simp only [zq_]; done) | omega)) rfl rfl (fun _ => rfl) (by omega))); omega; exact sz_; intro A1 c1 w2 ho1 hch1 hat1 hex1 hlow1; have hb := hex1 (· = rb) w (by exact ext_) (by omega); have hrd := Rdp.low (Rdp.keep (by assumption) (by exact kb_)) hch1.size hlow1 (by omega); have hz := hch1.size; (try simp only [zq_] at hz); obtain ⟨hc, hf⟩ := low_rules hlow1; clear hex1); refine outX hK (h := ?_); clear hK K; refine GoesX.takeX 5 54 (h := ?_); refine GoesX.oneX 6 (h := fun K hK => ?_); go_simp; refine outX hK (h := ?_); clear hK K; refine GoesX.done (by kernel_rfl) ?_ _))
   all_goals go_wp2_with fail
   all_goals have hS5 := (HS.out.mark (τx := fun _ => fdL dGn) (by exact ext_)).gatedX (OwG.snoc (g := ⟨h0, []⟩) HV1.out HV2.out HV3.out (by exact ext_) (Ow.nil _ _) HS.out.lo_le ho1 hch1 hat1 (fun j => by unfold fdL; omega)) (fun b hb => if_pos hb) hch1
   all_goals have hR5 := hS5.ow.rw_
   all_goals clear hS5
   all_goals (refine bodyPost_ret (v := .agg #[.slice dF dFn dFc, .slice dL dLn dLc, .slice dP dPn dPc, .slice dD dDn dDc, .int .i64 x.market.clock, .slice dN dNn dNc, .slice dS dSn dSc, .slice dI dIn dIc, .slice A1 (dGn + 1) c1, .slice dB dBn dBc]) (by simp [results, Tryz.results94, go_sem, *]) rfl ?_)
   all_goals refine ⟨dF, dFc, dFn, dL, dLc, dLn, dP, dPc, dPn, dD, dDc, dDn, dN, dNc, dNn, dS, dSc, dSn, dI, dIc, dIn, A1, c1, dGn + 1, dB, dBc, dBn, { x with gates := x.gates ++ [⟨h0, []⟩] }, rfl, ?_, ?_, (Rdp.keep hrd kb_).more (by omega), ext_⟩
   all_goals first | exact RW.less (RW.keep hR5 kf_) (by omega) | (have h := HLS.out; have e : dsz (x.gates ++ [(⟨h0, []⟩ : Sw.Gate)]) = dsz x.gates := (by simp [dsz]); dsimp only; rw [e]; omega)
 · clear hv0 hv1
   obtain ⟨vs, hv1, hv2, hv3⟩ := HS.out.ow.gates.ex
   have hgn := HLS.out.2.2.1
   subst hgn
   rcases hv1.ow.form with ⟨rfl, h0, _⟩ | ⟨gG, cur, rfl, hgG0, hgG1, -⟩
   · exfalso; omega
   obtain ⟨gG', xg, hgg, -, -, -, q0, q1, q2, q3, hfG⟩ := at_OGV hv1.ow (show 0 < 2 by omega)
   cases hgg
   simp only [Nat.zero_mul, Nat.zero_add] at q0 q1 q2 q3
   have hll := HLM.out.2.2.2
   clear hv1 hv2 hv3
   go_upto_region 13 with fail
   (focus (refine wn_ fun W0 hb0 hc0 hf0 hz0 => ?_; refine wp_regionX [8] (S := fun w' => HeldR rb W0 w') hdR (fun hHeld => ?_); refine GoesX.take 0 57 [1, 7, 8] hHeld (h := ?_); refine GoesX.take 1 58 [7, 8] hHeld (h := ?_); refine GoesX.take 2 59 [6, 7, 8] hHeld (h := ?_); refine GoesX.take 3 60 [4, 5, 6, 7, 8] hHeld (h := ?_); refine GoesX.take 4 61 [5, 6, 7, 8] hHeld (h := ?_); refine GoesX.take 5 62 [6, 7, 8] hHeld (h := ?_); refine GoesX.one 6 (h := fun K hK => ?_); go_simp; (go_at_call 175; apply Calls.mono; apply l21Gate_c; (apply Rdp.keep; assumption; (exact kb_)); (exact (hM.log.keep kf_).less (by omega)); omega; omega; omega; omega; rintro E w6 ⟨p6, q6, r6, B6, e6, k6, ys6, rfl, hy6, hk6, hrd, hb⟩; (obtain ⟨hc, hf, hz⟩ := xd hb)); (try go_wp2_with fail); refine outS hK hdR (h := ?_); clear hK K hHeld; intro hHeld; refine GoesX.take 7 64 [8] hHeld (h := ?_); refine GoesX.oneX 8 (h := fun K hK => ?_); go_simp; refine outX hK (h := ?_); clear hK K; refine GoesX.done (by kernel_rfl) ?_ _))
   all_goals go_wp2_with fail
   all_goals have hR5 : RW ((((w6.setCell ⟨gG, 0, none⟩ (.int .i64 p6)).setCell ⟨gG, 1, none⟩ (.int .i64 q6)).setCell ⟨gG, 2, none⟩ (.int .i64 r6)).setCell ⟨gG, 3, none⟩ (.slice B6 k6 e6)) (w.heap.size + 2) dF dFc dFn dL dLc dLn dP dPc dPn dD dDc dDn dN dNc dNn dS dSc dSn dI dIc dIn (some ⟨gG, 0, none⟩) dGc 2 dB dBc dBn { x with gates := x.gates.set 0 ⟨⟨p6, q6, r6⟩, ys6⟩ } := WS.gatedR (k := 0) (y := ⟨⟨p6, q6, r6⟩, ys6⟩) (HS.out.move (w' := w6) (by exact ext_) (show rb < w.heap.size + 2 by omega) (show w.heap.size ≠ rb by omega)) rfl (by omega) hy6 (by exact sz_) (by exact sz_)
   all_goals (refine bodyPost_ret (v := .agg #[.slice dF dFn dFc, .slice dL dLn dLc, .slice dP dPn dPc, .slice dD dDn dDc, .int .i64 x.market.clock, .slice dN dNn dNc, .slice dS dSn dSc, .slice dI dIn dIc, .slice (some ⟨gG, 0, none⟩) 2 dGc, .slice dB dBn dBc]) (by simp [results, Tryz.results94, go_sem, *]) rfl ?_)
   all_goals refine ⟨dF, dFc, dFn, dL, dLc, dLn, dP, dPc, dPn, dD, dDc, dDn, dN, dNc, dNn, dS, dSc, dSn, dI, dIc, dIn, some ⟨gG, 0, none⟩, dGc, 2, dB, dBc, dBn, { x with gates := x.gates.set 0 ⟨⟨p6, q6, r6⟩, ys6⟩ }, rfl, ?_, ?_, (Rdp.keep hrd kb_).more (by omega), ext_⟩
   all_goals first | exact RW.less (RW.keep hR5 kf_) (by omega) | (have h := HLS.out; have e := dsz_set x.gates 0 ⟨⟨p6, q6, r6⟩, ys6⟩; have hl6 := hy6.1; dsimp only at e ⊢; omega)
 · clear hv0 hv1
   obtain ⟨vs, hv1, hv2, hv3⟩ := HS.out.ow.bag.ex
   have hoX := hv1.ow
   have HV1 := Lib.hid hv1
   have HV2 := Lib.hid hv2
   have HV3 := Lib.hid hv3
   have hbn := HLS.out.2.2.2
   have hll := HLM.out.2.2.2
   clear hv1 hv2 hv3
   go_upto_region 3 with fail
   (focus (refine wn_ fun W0 hb0 hc0 hf0 hz0 => ?_; refine wp_regionX [11, 12, 13] (S := fun w' => HeldR rb W0 w') hdR (fun hHeld => ?_); refine GoesX.take 0 9 [1, 11, 12, 13] hHeld (h := ?_); refine GoesX.take 1 10 [11, 12, 13] hHeld (h := ?_); refine GoesX.take 2 11 [3, 8, 9, 10, 11, 12, 13] hHeld (h := ?_); refine GoesX.take 4 13 [8, 9, 10, 11, 12, 13] hHeld (h := ?_); refine GoesX.take 5 14 [6, 7, 8, 9, 10, 11, 12, 13] hHeld (h := ?_); refine GoesX.take 6 15 [7, 8, 9, 10, 11, 12, 13] hHeld (h := ?_); refine GoesX.take 7 16 [8, 9, 10, 11, 12, 13] hHeld (h := ?_); refine GoesX.one 3 (h := fun K hK => ?_); go_simp; (go_at_call 92; apply Calls.mono; apply pick_c; (apply Rdp.keep; assumption; (exact kb_)); (first | assumption | omega); (first | assumption | omega); rintro E w1 ⟨v, rfl, ⟨hv0, hv1⟩, hrd, hb⟩; obtain ⟨hc, hf, hz⟩ := xd hb); (try go_wp2_with fail); refine outS hK hdR (h := ?_); clear hK K hHeld; intro hHeld; refine GoesX.one 8 (h := fun K hK => ?_); go_simp; (go_at_call 176; apply Calls.mono; apply l21Head_c; (apply Rdp.keep; assumption; (exact kb_)); (exact (hM.log.keep kf_).less (by omega)); omega; omega; omega; omega; rintro E w6 ⟨p6, q6, r6, rfl, hrd, hb⟩; (obtain ⟨hc, hf, hz⟩ := xd hb)); (try go_wp2_with fail); refine outS hK hdR (h := ?_); clear hK K hHeld; intro hHeld; refine GoesX.take 9 18 [10, 11, 12, 13] hHeld (h := ?_); refine GoesX.one 10 (h := fun K hK => ?_); go_simp; refine outS hK hdR (h := ?_); clear hK K hHeld; intro hHeld; refine GoesX.oneX 11 (h := fun K hK => ?_); (apply step_app (lo := w.heap.size + 2) el_X one_X rfl rfl rfl rfl; (first | assumption | exact Ow.nil _ _ | (apply Ow.keep; assumption; exact kf_) | (refine own_)); (first | (refine Rs.new [⟨_, ⟨p6, q6, r6⟩, none, 0, 0⟩] (by (first | rfl | (simp only [zq_]; done) | omega)) rfl rfl (fun _ => rfl) (by omega))); omega; exact sz_; intro A1 c1 w2 ho1 hch1 hat1 hex1 hlow1; have hb := hex1 (· = rb) w (by exact ext_) (by omega); have hrd := Rdp.low (Rdp.keep (by assumption) (by exact kb_)) hch1.size hlow1 (by omega); have hz := hch1.size; (try simp only [zq_] at hz); obtain ⟨hc, hf⟩ := low_rules hlow1; clear hex1); refine outX hK (h := ?_); clear hK K; refine GoesX.takeX 12 21 (h := ?_); refine GoesX.oneX 13 (h := fun K hK => ?_); go_simp; refine outX hK (h := ?_); clear hK K; refine GoesX.done (by kernel_rfl) ?_ _))
   all_goals go_wp2_with fail
   all_goals have hR5 := HS.out.sentR (m := ⟨v, ⟨p6, q6, r6⟩, []⟩) (by exact ext_) (show rb < w.heap.size + 2 by omega) (show w.heap.size ≠ rb by omega) rfl HV1.out HV2.out HV3.out ho1 hch1 hat1
   all_goals (refine bodyPost_ret (v := .agg #[.slice dF dFn dFc, .slice dL dLn dLc, .slice dP dPn dPc, .slice dD dDn dDc, .int .i64 x.market.clock, .slice dN dNn dNc, .slice dS dSn dSc, .slice dI dIn dIc, .slice dG dGn dGc, .slice A1 (dBn + 1) c1]) (by simp [results, Tryz.results94, go_sem, *]) rfl ?_)
   all_goals refine ⟨dF, dFc, dFn, dL, dLc, dLn, dP, dPc, dPn, dD, dDc, dDn, dN, dNc, dNn, dS, dSc, dSn, dI, dIc, dIn, dG, dGc, dGn, A1, c1, dBn + 1, { x with bag := x.bag ++ [⟨v, ⟨p6, q6, r6⟩, []⟩] }, rfl, ?_, ?_, (Rdp.keep hrd kb_).more (by omega), ext_⟩
   all_goals first | exact RW.less (RW.keep hR5 kf_) (by omega) | (have h := HLS.out; have e : psz (x.bag ++ [(⟨v, ⟨p6, q6, r6⟩, []⟩ : Sw.Msg)]) = psz x.bag := (by simp [psz]); dsimp only; rw [e]; omega)
end Go.Proofs.YtnnoiagommiapaaGreat
