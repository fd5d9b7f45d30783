/- Texts joined: DrawR. -/
import Derived.Test.YtnnoiagommiapaaGreatPy15
import Derived.Test.YtnnoiagommiapaaGreatPy22
import Derived.Deep.CutBlock
import Derived.Deep.DeepCutAuto
set_option maxRecDepth 100000
set_option linter.unusedSimpArgs false
set_option linter.unusedVariables false
namespace Go.Proofs.YtnnoiagommiapaaGreat
open Go.RowKit Go
set_option maxHeartbeats 4000000
theorem sDealOfA_c (aL : Option Addr) (aLc aLn : Nat) (aP : Option Addr) (aPc aPn : Nat) (aD : Option Addr) (aDc aDn : Nat) (aN : Option Addr) (aNc aNn : Nat) (aS : Option Addr) (aSc aSn : Nat) (m : Sw.Mkt) (rows : List Sw.Row) (t : Int) (w : World) (hD : RDl w 0 aD aDc aDn m.deals) (hok : Sw.MOk m rows) : Calls Tryz.prog 271 #[.agg #[.slice aL aLn aLc, .slice aP aPn aPc, .slice aD aDn aDc, .int .i64 m.clock, .slice aN aNn aNc, .slice aS aSn aSc], .int .i64 t] w fun E w' =>
   ∃ (p q r s u : Int) (b : Bool), E = .returned (.tuple #[.agg #[.int .i64 p, .int .i64 q, .int .i64 r, .int .i64 s, .int .i64 u], .bool b]) ∧ (b = true → 1 ≤ q ∧ q ≤ 5) ∧ Ex w w' := by
 cases h : Sw.dealAt m.deals t with
 | none =>
   refine (sDealOfN_c aL aLc aLn aP aPc aPn aD aDc aDn aN aNc aNn aS aSc aSn m t w hD (by unfold Sw.dealIx; rw [h])).mono ?_
   rintro E w' ⟨rfl, hb⟩
   exact ⟨_, _, _, _, _, _, rfl, fun h => (by cases h), hb⟩
 | some k =>
   obtain ⟨d, hd, _⟩ := Sw.dealAt_some h
   refine (sDealOfY_c aL aLc aLn aP aPc aPn aD aDc aDn aN aNc aNn aS aSc aSn m t k d w hD (by unfold Sw.dealIx; rw [h]) hd).mono ?_
   rintro E w' ⟨rfl, hb⟩
   have := (Sw.dealOk_iff.1 (hok.deals.get hd)).2.1
   exact ⟨_, _, _, _, _, _, rfl, fun _ => this, hb⟩
theorem MktAt.blk {w w' : World} {g o : Nat} {aL : Option Addr} {aLc aLn : Nat} {aP : Option Addr} {aPc aPn : Nat} {aD : Option Addr} {aDc aDn : Nat} {aN : Option Addr} {aNc aNn : Nat} {aS : Option Addr} {aSc aSn : Nat} {clock : Int} (h : MktAt w g o aL aLc aLn aP aPc aPn aD aDc aDn aN aNc aNn aS aSc aSn clock) (hb : w'.heap[g]? = w.heap[g]?) (hz : w.heap.size ≤ w'.heap.size) : MktAt w' g o aL aLc aLn aP aPc aPn aD aDc aDn aN aNc aNn aS aSc aSn clock := by
 have c : ∀ i : Nat, w'.cell? ⟨g, i, none⟩ = w.cell? ⟨g, i, none⟩ := fun i => World.cell?_of_block (w := w) (a := ⟨g, i, none⟩) hb
 exact ⟨Nat.lt_of_lt_of_le h.lt hz, (c _).trans h.log, (c _).trans h.purses, (c _).trans h.deals, (c _).trans h.clk, (c _).trans h.nums, (c _).trans h.said, fun i => (World.frozen?_of_block (w := w) (a := ⟨g, i, none⟩) hb).trans (h.free i)⟩
def ReqB (w : World) (g : Nat) : Prop := Ints w g 6 ∧ ∃ u : Int, w.cell? ⟨g, 0, none⟩ = some (.int .i64 u) ∧ 1 ≤ u ∧ u ≤ 5
theorem l21Req_c (rb P : Nat) (aL : Option Addr) (aLc aLn : Nat) (aP : Option Addr) (aPc aPn : Nat) (aD : Option Addr) (aDc aDn : Nat) (aN : Option Addr) (aNc aNn : Nat) (aS : Option Addr) (aSc aSn : Nat) (m : Sw.Mkt) (rows : List Sw.Row) (w : World) (hr : Rdp w rb P) (hok : Sw.MOk m rows) (hM : RM w (rb + 1) aL aLc aLn aP aPc aPn aD aDc aDn aN aNc aNn aS aSc aSn m) (hP : P ≤ 900000) : Calls Tryz.prog 238 #[.pointer (some ⟨rb, 0, none⟩), .agg #[.slice aL aLn aLc, .slice aP aPn aPc, .slice aD aDn aDc, .int .i64 m.clock, .slice aN aNn aNc, .slice aS aSn aSc]] w fun E w' => ∃ p q r s t u, E = .returned (.agg #[.int .i64 p, .int .i64 q, .int .i64 r, .int .i64 s, .int .i64 t, .int .i64 u]) ∧ Rdp w' rb (P + 40) ∧ Ch (· = rb) w w' := by
 have hlt := hr.lt
 have HO := Lib.hid hok
 have e1 : Sw.mktRows m = rows := Sw.mktRows_of hok.fold
 have e2 := Sw.ownOk_len (Sw.ownFold_ok hok.fold)
 clear hok
 go_enter Tryz.func238, Tryz.ntmps238
 go_upto_block 0 with (first | (go_at_call 195; apply Calls.mono; apply sRows_c; (apply Rs.at0 hM.log; (exact kf_)); rintro E w1 ⟨A1, c1, n1, rfl, hrow, hb⟩; obtain ⟨hc, hf, hz⟩ := xy hb) | (go_at_call 92; apply Calls.mono; apply pick_c; (apply Rdp.keep; assumption; (exact kb_)); (first | assumption | omega); (first | assumption | omega); rintro E w1 ⟨v, rfl, ⟨hv0, hv1⟩, hrd, hb⟩; obtain ⟨hc, hf, hz⟩ := xd hb))
 rw [e1] at hrow
 obtain rfl : n1 = 8 := hrow.1.trans e2
 obtain ⟨t0, rfl⟩ := Int.eq_ofNat_of_zero_le hv0
 have ht0 : t0 < 8 := by omega
 have hrow1 : OwR w1 w.heap.size A1 c1 8 rows := (hrow.keep kf_).less sz_
 have hR1 : Ints w1 (w.heap.size + 1) 6 := by (repeat (first | with_reducible assumption | exact Ints.new (zs := [_, _, _, _, _, _]) (by first | with_reducible rfl | omega | (simp only [zq_]; done) | (simp only [zq_]; omega)) rfl rfl | exact Ints.new (zs := [_, _, _]) (by first | with_reducible rfl | omega | (simp only [zq_]; done) | (simp only [zq_]; omega)) rfl rfl | exact Ints.new (zs := [_, _, _, _]) (by first | with_reducible rfl | omega | (simp only [zq_]; done) | (simp only [zq_]; omega)) rfl rfl | with_reducible apply Ints.alloc | with_reducible apply Ints.drew | (with_reducible refine Ints.set ?_ rfl) | (with_reducible refine Ints.ch (by assumption) (by first | exact (fun h => h) | omega | (simp only [zq_]; omega)) ?_)))
 have hmk : MktAt w1 w.heap.size 0 aL aLc aLn aP aPc aPn aD aDc aDn aN aNc aNn aS aSc aSn m.clock := ⟨sz_, co_, co_, co_, co_, co_, co_, fun i => co_⟩
 have hHC : RdCh w w1 rb (P + 1) := ⟨hrd, ext_⟩
 have hsz : w.heap.size + 2 ≤ w1.heap.size := sz_
 clear hrow hv0 hv1 hrd hb hc hf hz
 ((repeat (rename Ch _ _ _ => zz; clear zz)); (repeat (rename Rdp _ _ _ => zz; clear zz)); (repeat (rename (∀ (b o : Nat), ¬ ((⟨b, 0, none⟩ : Addr) = ⟨b - _ + _, 0, none⟩) → _) => zz; clear zz)))
 obtain ⟨hrd, hb⟩ := hHC
 go_cut [6] (fun t wx => ∃ tt : Nat, t = .int .i64 tt ∧ tt < 8 ∧ Ch (· = rb) w1 wx ∧ Rdp wx rb (P + 10))
 case first =>
   go_wp2_with fail
   go_loopw [6, 7] (fun t k wr => ∃ (tt kk : Nat), t = .int .i64 tt ∧ tt < 8 ∧ k = .int .i64 kk ∧ kk ≤ 5 ∧ Ch (· = rb) w1 wr ∧ Rdp wr rb (P + 1 + kk)) (fun _ k _ => 5 - (intOf k).toNat)
   case atStart => exact ⟨t0, 0, rfl, ht0, rfl, by omega, Ch.refl _ _, hrd⟩
   case round =>
     obtain ⟨tt, kk, rfl, htt, rfl, hkk, hb2, hrd2⟩ := hrel
     have hst := xc hb2
     obtain ⟨hc2, hf2, hz2⟩ := hst
     have hrw : OwR wr w.heap.size A1 c1 8 rows := hrow1.keep kf_
     obtain ⟨gR, y, hA, hloR, hltR, hy, q0, q1, q2, hfz⟩ := at_OR hrw htt
     subst hA
     clear hy q2 hfz
     have i0 : (0 : Int) ≤ (tt : Int) := by omega
     have i1 : (tt : Int) < 8 := by omega
     have hlen8 : ((8 : Int) == 8) = true := rfl
     by_cases hgo : kk < 5 ∧ y.who = 0
     · obtain ⟨hk5, hw0⟩ := hgo
       have hg1 : (kk : Int) < 5 := by omega
       have hg2 : (y.who == 0) = true := by simp [hw0]
       go_wp2_with (go_at_call 92; apply Calls.mono; apply pick_c; (apply Rdp.keep; assumption; (exact kb_)); (first | assumption | omega); (first | assumption | omega); rintro E w1 ⟨v, rfl, ⟨hv0, hv1⟩, hrd, hb⟩; obtain ⟨hc, hf, hz⟩ := xd hb)
       obtain ⟨t1, rfl⟩ := Int.eq_ofNat_of_zero_le hv0
       go_roundw
       case rel => exact ⟨t1, kk + 1, rfl, by omega, by go_num, by omega, ext_, hrd.more (by omega)⟩
       case measure => simp [intOf]; omega
     · rcases (show ¬ (kk : Int) < 5 ∨ ((kk : Int) < 5 ∧ (y.who == 0) = false) by by_cases h5 : kk < 5; exact .inr ⟨by omega, by simp; exact fun h => hgo ⟨h5, h⟩⟩; exact .inl (by omega)) with hk5 | ⟨hk5, hg2⟩
       all_goals
         go_wp2_with fail
         go_meet
         exact ⟨tt, rfl, htt, hb2, hrd2.more (by omega)⟩
 case rest =>
   obtain ⟨tt, rfl, htt, hb2, hrd2⟩ := hcut
   have hrw : OwR wc w.heap.size A1 c1 8 rows := hrow1.keep kf_
   obtain ⟨gR, y, hA, hloR, hltR, hy, q0, q1, q2, hfz⟩ := at_OR hrw htt
   subst hA
   have HY := Lib.hid hy
   have i0 : (0 : Int) ≤ (tt : Int) := by omega
   have i1 : (tt : Int) < 8 := by omega
   have hlen8 : ((8 : Int) == 8) = true := rfl
   have hRc : Ints wc (w.heap.size + 1) 6 := by (repeat (first | with_reducible assumption | exact Ints.new (zs := [_, _, _, _, _, _]) (by first | with_reducible rfl | omega | (simp only [zq_]; done) | (simp only [zq_]; omega)) rfl rfl | exact Ints.new (zs := [_, _, _]) (by first | with_reducible rfl | omega | (simp only [zq_]; done) | (simp only [zq_]; omega)) rfl rfl | exact Ints.new (zs := [_, _, _, _]) (by first | with_reducible rfl | omega | (simp only [zq_]; done) | (simp only [zq_]; omega)) rfl rfl | with_reducible apply Ints.alloc | with_reducible apply Ints.drew | (with_reducible refine Ints.set ?_ rfl) | (with_reducible refine Ints.ch (by assumption) (by first | exact (fun h => h) | omega | (simp only [zq_]; omega)) ?_)))
   have hb2w : Ch (· = rb) w wc := hb.trans' hb2 (fun i _ hi => hi)
   have hmc : MktAt wc w.heap.size 0 aL aLc aLn aP aPc aPn aD aDc aDn aN aNc aNn aS aSc aSn m.clock := hmk.blk (hb2.block w.heap.size (by omega) (by omega)) hb2.size
   obtain ⟨k0, k1, k2, k3, k4, k5, k6, kfm⟩ := hmc
   simp only [Nat.zero_add] at k1 k2 k3 k4 k5 k6
   have hszc : w.heap.size + 2 ≤ wc.heap.size := by have := hb2.size; omega
   clear hy q2 hfz hrow1 hR1 hmk hsz hrd hb hb2 hrw
   have hb := hb2w
   go_upto_block 2 with (first | (go_at_call 92; apply Calls.mono; apply pick_c; (apply Rdp.keep; assumption; (exact kb_)); (first | assumption | omega); (first | assumption | omega); rintro E w1 ⟨v, rfl, ⟨hv0, hv1⟩, hrd, hb⟩; obtain ⟨hc, hf, hz⟩ := xd hb) | (go_at_call 271; apply Calls.mono; apply (sDealOfA_c (rows := rows)); (apply Rs.at0 hM.deals; (exact kf_)); (exact HO.out); rintro E w2 ⟨d1, d2, d3, d4, d5, ok, rfl, hsel, hb⟩; obtain ⟨hc, hf, hz⟩ := xy hb))
   (refine wn_ fun W0 hb0 hc0 hf0 hz0 => ?_)
   obtain ⟨g, hgg⟩ : ∃ g, g = w1.heap.size := ⟨_, rfl⟩
   obtain ⟨gd, hgd⟩ : ∃ g, g = w2.heap.size := ⟨_, rfl⟩
   have hI : Ints W0 g 6 := (by rw [hgg]; (repeat (first | with_reducible assumption | exact Ints.new (zs := [_, _, _, _, _, _]) (by first | with_reducible rfl | omega | (simp only [zq_]; done) | (simp only [zq_]; omega)) rfl rfl | exact Ints.new (zs := [_, _, _]) (by first | with_reducible rfl | omega | (simp only [zq_]; done) | (simp only [zq_]; omega)) rfl rfl | exact Ints.new (zs := [_, _, _, _]) (by first | with_reducible rfl | omega | (simp only [zq_]; done) | (simp only [zq_]; omega)) rfl rfl | with_reducible apply Ints.alloc | with_reducible apply Ints.drew | (with_reducible refine Ints.set ?_ rfl) | (with_reducible refine Ints.ch (by assumption) (by first | exact (fun h => h) | omega | (simp only [zq_]; omega)) ?_))))
   have hR : Ints W0 (w.heap.size + 1) 6 := (by (repeat (first | with_reducible assumption | exact Ints.new (zs := [_, _, _, _, _, _]) (by first | with_reducible rfl | omega | (simp only [zq_]; done) | (simp only [zq_]; omega)) rfl rfl | exact Ints.new (zs := [_, _, _]) (by first | with_reducible rfl | omega | (simp only [zq_]; done) | (simp only [zq_]; omega)) rfl rfl | exact Ints.new (zs := [_, _, _, _]) (by first | with_reducible rfl | omega | (simp only [zq_]; done) | (simp only [zq_]; omega)) rfl rfl | with_reducible apply Ints.alloc | with_reducible apply Ints.drew | (with_reducible refine Ints.set ?_ rfl) | (with_reducible refine Ints.ch (by assumption) (by first | exact (fun h => h) | omega | (simp only [zq_]; omega)) ?_))))
   have qc0 : W0.cell? ⟨g, 0, none⟩ = some (.int .i64 (1 + v)) := by rw [hgg]; (go_simp; first | done | simp [*])
   have qc1 : W0.cell? ⟨g, 1, none⟩ = some (.int .i64 0) := by rw [hgg]; (go_simp; first | done | simp [*])
   have qc2 : W0.cell? ⟨g, 2, none⟩ = some (.int .i64 0) := by rw [hgg]; (go_simp; first | done | simp [*])
   have qc3 : W0.cell? ⟨g, 3, none⟩ = some (.int .i64 tt) := by rw [hgg]; (go_simp; first | done | simp [*])
   have qc4 : W0.cell? ⟨g, 4, none⟩ = some (.int .i64 0) := by rw [hgg]; (go_simp; first | done | simp [*])
   have qc5 : W0.cell? ⟨g, 5, none⟩ = some (.int .i64 0) := by rw [hgg]; (go_simp; first | done | simp [*])
   have dc1 : W0.cell? ⟨gd, 1, none⟩ = some (.int .i64 d2) := by rw [hgd]; (go_simp; first | done | simp [*])
   have dc3 : W0.cell? ⟨gd, 3, none⟩ = some (.int .i64 d4) := by rw [hgd]; (go_simp; first | done | simp [*])
   have rc0 : W0.cell? ⟨gR, tt * 3, none⟩ = some (.int .i64 y.who) := co_
   have rc1 : W0.cell? ⟨gR, tt * 3 + 1, none⟩ = some (.int .i64 y.face) := co_
   have mc4 : W0.cell? ⟨w.heap.size, 4, none⟩ = some (.slice aN aNn aNc) := co_
   have HR : RdCh w W0 rb (P + 12) := ⟨(Rdp.keep hrd (show KB rb w1 W0 from by (exact kb_))).more (by omega), ext_⟩
   rw [← hgg, ← hgd]
   have hgRg : gR < g := by rw [hgg]; omega
   have hg0 : w.heap.size + 2 ≤ g := by rw [hgg]; exact sz_
   have hgd0 : g + 1 ≤ gd := by rw [hgd, hgg]; omega
   have hgd1 : gd < W0.heap.size := by rw [hgd]; omega
   have hfr := hI.free
   clear hb0 hc0 hf0 hz0 hb hc hf hz hrd hgg hgd q0 q1 hb2w hrd2 k1 k2 k3 k4 k5 k6 kfm hRc
   ((repeat (rename Ch _ _ _ => zz; clear zz)); (repeat (rename Rdp _ _ _ => zz; clear zz)); (repeat (rename (∀ (b o : Nat), ¬ ((⟨b, 0, none⟩ : Addr) = ⟨b - _ + _, 0, none⟩) → _) => zz; clear zz)))
   obtain ⟨hrd, hb⟩ := HR
   have hRl := hR.lt
   have hcap := entCap_bd y.face
   obtain ⟨hcap0, hcap1⟩ := hcap
   have hyo := Sw.rowOk_iff.1 (List.all_eq_true.1 (Bool.and_eq_true_iff.1 (Sw.ownFold_ok HO.out.fold)).1 y (List.mem_of_getElem? HY.out))
   go_cut [] (fun wx => Ints wx g 6 ∧ (∃ u : Int, wx.cell? ⟨g, 0, none⟩ = some (.int .i64 u) ∧ 1 ≤ u ∧ u ≤ 5) ∧ Ints wx (w.heap.size + 1) 6 ∧ wx.cell? ⟨w.heap.size, 4, none⟩ = some (.slice aN aNn aNc) ∧ Rdp wx rb (P + 25) ∧ Ch (· = rb) w wx)
   case first =>
     rcases (show (y.who == 0) = true ∨ ((y.who == 0) = false ∧ 1 ≤ y.who ∧ y.who ≤ 5) by (rcases hyo with ⟨h, _⟩ | ⟨h, _⟩; exact .inl (by simp [h]); exact .inr ⟨by simp; omega, h⟩)) with hw0 | ⟨hw0, hw1, hw5⟩
     all_goals clear hyo
     all_goals cases ok
     all_goals try (have hs2 := hsel rfl; obtain ⟨hs20, hs21⟩ := hs2)
     all_goals clear hsel
     all_goals go_wp2_with (first | (go_at_call 92; apply Calls.mono; apply (pickLit (fun _ => True)); (apply Rdp.keep; assumption; (exact kb_)); omega; (first | rfl | (simp; done)); (repeat (first | exact LitQ.nil | (refine LitQ.cons ⟨_, rfl, (by first | exact trivial | omega)⟩ ?_))); omega; (first | omega | (simp only [zq_]; omega)); rintro E w1 ⟨v, x, rfl, hv, hq, hcx, hrd, hb⟩; (try simp only [zq_] at hcx); obtain ⟨hc, hf, hz⟩ := xd hb) | (go_at_call 92; apply Calls.mono; apply pick_c; (apply Rdp.keep; assumption; (exact kb_)); (first | assumption | omega); (first | assumption | omega); rintro E w1 ⟨v, rfl, ⟨hv0, hv1⟩, hrd, hb⟩; obtain ⟨hc, hf, hz⟩ := xd hb) | (first | (go_at_call 178; refine (sEntCap_c _ _).mono ?_; rintro E w' ⟨rfl, rfl⟩)))
     all_goals go_meet
     all_goals exact ⟨by (repeat (first | with_reducible assumption | exact Ints.new (zs := [_, _, _, _, _, _]) (by first | with_reducible rfl | omega | (simp only [zq_]; done) | (simp only [zq_]; omega)) rfl rfl | exact Ints.new (zs := [_, _, _]) (by first | with_reducible rfl | omega | (simp only [zq_]; done) | (simp only [zq_]; omega)) rfl rfl | exact Ints.new (zs := [_, _, _, _]) (by first | with_reducible rfl | omega | (simp only [zq_]; done) | (simp only [zq_]; omega)) rfl rfl | with_reducible apply Ints.alloc | with_reducible apply Ints.drew | (with_reducible refine Ints.set ?_ rfl) | (with_reducible refine Ints.ch (by assumption) (by first | exact (fun h => h) | omega | (simp only [zq_]; omega)) ?_))), by (go_simp <;> omega), by (repeat (first | with_reducible assumption | exact Ints.new (zs := [_, _, _, _, _, _]) (by first | with_reducible rfl | omega | (simp only [zq_]; done) | (simp only [zq_]; omega)) rfl rfl | exact Ints.new (zs := [_, _, _]) (by first | with_reducible rfl | omega | (simp only [zq_]; done) | (simp only [zq_]; omega)) rfl rfl | exact Ints.new (zs := [_, _, _, _]) (by first | with_reducible rfl | omega | (simp only [zq_]; done) | (simp only [zq_]; omega)) rfl rfl | with_reducible apply Ints.alloc | with_reducible apply Ints.drew | (with_reducible refine Ints.set ?_ rfl) | (with_reducible refine Ints.ch (by assumption) (by first | exact (fun h => h) | omega | (simp only [zq_]; omega)) ?_))), co_, Rdp.more (Rdp.keep (by assumption) (by (exact kb_))) (by omega), ext_⟩
   case rest =>
     clear hI hR qc0 qc1 qc2 qc3 qc4 qc5 dc1 dc3 rc0 rc1 mc4 hrd hb hRl hyo hcap0 hcap1 hsel hfr
     obtain ⟨hI, ⟨u, hu, hu1, hu5⟩, hR, mc4, hrd, hb⟩ := hcut
     obtain ⟨k, rfl⟩ : ∃ k : Nat, u = (k : Int) + 1 := ⟨(u - 1).toNat, by omega⟩
     have hk5 : k < 5 := by omega
     have hNn : aNn = 5 := hM.nums.1.trans HO.out.nlen
     subst hNn
     have hN0 : RI wc 0 aN aNc 5 m.nums := Rs.at0 hM.nums kf_
     obtain ⟨gN, off, last, hA, _, hltN, _, hx, hcN⟩ := at_I hN0 hk5
     have hlb : 0 ≤ last ∧ last ≤ 99999 := by
       obtain ⟨z, hz⟩ : ∃ z, m.said[k]? = some z := ⟨_, List.getElem?_eq_getElem (by rw [HO.out.slen]; exact hk5)⟩
       have := Sw.numOk_iff.1 ((Sw.numsOk_iff (by rw [HO.out.nlen, HO.out.slen])).1 HO.out.nums _ _ _ hx hz)
       exact this.1
     obtain ⟨hl0, hl1⟩ := hlb
     subst hA
     clear hx hN0 hM
     have hfr := hI.free
     have hLg := hI.lt
     have hLr := hR.lt
     obtain ⟨o1, ho1⟩ := hI.at_ (i := 1) (by omega)
     obtain ⟨o2, ho2⟩ := hI.at_ (i := 2) (by omega)
     obtain ⟨o3, ho3⟩ := hI.at_ (i := 3) (by omega)
     obtain ⟨o4, ho4⟩ := hI.at_ (i := 4) (by omega)
     obtain ⟨o5, ho5⟩ := hI.at_ (i := 5) (by omega)
     obtain ⟨r0, hr0⟩ := hR.at_ (i := 0) (by omega); obtain ⟨r1, hr1⟩ := hR.at_ (i := 1) (by omega); obtain ⟨r2, hr2⟩ := hR.at_ (i := 2) (by omega); obtain ⟨r3, hr3⟩ := hR.at_ (i := 3) (by omega); obtain ⟨r4, hr4⟩ := hR.at_ (i := 4) (by omega); obtain ⟨r5, hr5⟩ := hR.at_ (i := 5) (by omega); have hrf := hR.free
     go_wp2_with (go_at_call 92; apply Calls.mono; apply pick_c; (apply Rdp.keep; assumption; (exact kb_)); (first | assumption | omega); (first | assumption | omega); rintro E w1 ⟨v, rfl, ⟨hv0, hv1⟩, hrd, hb⟩; obtain ⟨hc, hf, hz⟩ := xd hb)
     · refine bodyPost_ret (v := .agg #[.int .i64 ((k : Int) + 1), .int .i64 (1 + v), .int .i64 o2, .int .i64 o3, .int .i64 o4, .int .i64 o5]) (by simp [results, Tryz.results238, go_sem, *]) rfl ?_
       exact ⟨_, _, _, _, _, _, rfl, (Rdp.keep hrd (by (exact kb_))).more (by omega), ext_⟩
     · refine bodyPost_ret (v := .agg #[.int .i64 ((k : Int) + 1), .int .i64 (last + 1), .int .i64 o2, .int .i64 o3, .int .i64 o4, .int .i64 o5]) (by simp [results, Tryz.results238, go_sem, *]) rfl ?_
       exact ⟨_, _, _, _, _, _, rfl, (Rdp.keep hrd (by (exact kb_))).more (by omega), ext_⟩
end Go.Proofs.YtnnoiagommiapaaGreat
