/-
  Texts joined: Tick, PtrK, Plain8, WldNew, Law3, LawMk.
-/
import Derived.Test.YtimpagcanengoaaPk5
import Derived.Test.YtimpagcanengoaaPk10
import Derived.Test.YtimpagcanengoaaPk12
import Derived.Test.YtimpagcanengoaaPk11
import Derived.Test.YtimpagcanengoaaPk3
import Derived.Test.YtimpagcanengoaaPk4
import Derived.Test.YtimpagcanengoaaPk2
namespace Go.Proofs.Ytimpagcanengoaa
set_option maxRecDepth 100000
set_option linter.unusedSimpArgs false
set_option linter.unusedVariables false
open Go.RowKit Go
set_option maxHeartbeats 2000000

theorem sMktTick_c (aL : Option Addr) (aLc aLn : Nat) (aP : Option Addr) (aPc aPn : Nat) (aD : Option Addr) (aDc aDn : Nat) (aN : Option Addr) (aNc aNn : Nat) (aS : Option Addr) (aSc aSn : Nat) (m : Sw.Mkt) (w : World) (hm : RM w 0 aL aLc aLn aP aPc aPn aD aDc aDn aN aNc aNn aS aSc aSn m) (hn : aLn + aPn + aDn + aNn + aSn ≤ 1048576) : Calls Try.prog 17 #[.agg #[.slice aL aLn aLc, .slice aP aPn aPc, .slice aD aDn aDc, .int .i64 m.clock, .slice aN aNn aNc, .slice aS aSn aSc]] w fun E w' => ∃ bL bLc bLn bP bPc bPn bD bDc bDn bN bNc bNn bS bSc bSn τ, E = .returned (.tuple #[.agg #[.slice bL bLn bLc, .slice bP bPn bPc, .slice bD bDn bDc, .int .i64 (Sw.mktTick m).1.clock, .slice bN bNn bNc, .slice bS bSn bSc], .bool (Sw.mktTick m).2]) ∧ OwM τ w' w.heap.size bL bLc bLn bP bPc bPn bD bDc bDn bN bNc bNn bS bSc bSn (Sw.mktTick m).1 ∧ Ex w w' := by
  cases g1 : Sw.mktOk m
  case false =>
    have e : Sw.mktTick m = (⟨[], [], [], 0, [], []⟩, false) := by simp [Sw.mktTick, g1, Sw.mktZ]
    have He := Lib.hid e; clear e
    go_enter Try.func17, Try.ntmps17
    go_wp2_with (first | (go_at_call 21; apply Calls.mono; apply sMktOk_c; ((first | (apply RM.at0; assumption) | (apply OwM.rm0; assumption)); exact kf_); rintro E w1 ⟨rfl, hb⟩; have hst := xr hb; (try simp only [zA, zC, zD, zN] at hst); obtain ⟨hc, hf, hz⟩ := hst))
    refine bodyPost_ret (v := .tuple #[.agg #[.slice none 0 0, .slice none 0 0, .slice none 0 0, .int .i64 0, .slice none 0 0, .slice none 0 0], .bool false]) (by simp [results, Try.results17, go_sem, *]) rfl ?_
    refine ⟨_, _, _, _, _, _, _, _, _, _, _, _, _, _, _, fun _ => 0, by rw [He.out], ?_, ext_⟩
    rw [He.out]
    exact ⟨OwT.nil .., OwT.nil .., OwT.nil .., OwT.nil .., OwT.nil ..⟩
  have hok := (Sw.mktOk_iff.1 g1)
  obtain ⟨rows, hok⟩ := hok
  have hck := hok.clk
  obtain ⟨ck0, ck1⟩ := hck
  clear hok
  by_cases g2 : m.clock = 99999
  · have g2' : (m.clock == 99999) = true := by simp [g2]
    have e : Sw.mktTick m = (m, false) := by simp [Sw.mktTick, g1, g2]
    have He := Lib.hid e; clear e g2
    go_enter Try.func17, Try.ntmps17
    go_wp2_with (first | (go_at_call 21; apply Calls.mono; apply sMktOk_c; ((first | (apply RM.at0; assumption) | (apply OwM.rm0; assumption)); exact kf_); rintro E w1 ⟨rfl, hb⟩; have hst := xr hb; (try simp only [zA, zC, zD, zN] at hst); obtain ⟨hc, hf, hz⟩ := hst) | (go_at_call 46; apply Calls.mono; apply sMktCopy_c; ((first | (apply RM.at0; assumption) | (apply OwM.rm0; assumption)); exact kf_); (first | assumption | omega); rintro E w1 ⟨bL, bLc, bLn, bP, bPc, bPn, bD, bDc, bDn, bN, bNc, bNn, bS, bSc, bSn, τ, rfl, ho, hb⟩; have hst := xr hb; (try simp only [zA, zC, zD, zN] at hst); obtain ⟨hc, hf, hz⟩ := hst))
    refine bodyPost_ret (v := .tuple #[.agg #[.slice bL bLn bLc, .slice bP bPn bPc, .slice bD bDn bDc, .int .i64 m.clock, .slice bN bNn bNc, .slice bS bSn bSc], .bool false]) (by simp [results, Try.results17, go_sem, *]) rfl ?_
    refine ⟨_, _, _, _, _, _, _, _, _, _, _, _, _, _, _, τ, by rw [He.out], ?_, ext_⟩
    rw [He.out]
    exact OwM.less (ho.keepF (by (exact kf_))) (by exact sz_)
  · have g2' : (m.clock == 99999) = false := by simp [g2]
    have e : Sw.mktTick m = (Sw.tick m, true) := by simp [Sw.mktTick, g1, g2]
    have He := Lib.hid e; clear e g2
    have l3 := Lib.hid hm.deals.1
    have l2 := Lib.hid hm.purses.1
    go_enter Try.func17, Try.ntmps17
    go_wp2_with (first | (go_at_call 21; apply Calls.mono; apply sMktOk_c; ((first | (apply RM.at0; assumption) | (apply OwM.rm0; assumption)); exact kf_); rintro E w1 ⟨rfl, hb⟩; have hst := xr hb; (try simp only [zA, zC, zD, zN] at hst); obtain ⟨hc, hf, hz⟩ := hst) | (go_at_call 46; apply Calls.mono; apply sMktCopy_c; ((first | (apply RM.at0; assumption) | (apply OwM.rm0; assumption)); exact kf_); (first | assumption | omega); rintro E w1 ⟨bL, bLc, bLn, bP, bPc, bPn, bD, bDc, bDn, bN, bNc, bNn, bS, bSc, bSn, τ, rfl, ho, hb⟩; have hst := xr hb; (try simp only [zA, zC, zD, zN] at hst); obtain ⟨hc, hf, hz⟩ := hst))
    apply Calls.mono
    apply (sTick_c (τ := τ))
    · exact ho.keepF (by (exact kf_))
    · exact ck0
    · exact ck1
    · have := ho.deals.ow.1; have := l3.out; omega
    · have := ho.purses.ow.1; have := l2.out; omega
    · exact sz_
    rintro E w3 ⟨A3, c3, τ3, rfl, ho3, hτ3, hb3⟩
    obtain ⟨hc3, hf3⟩ := low_rules (fun b hb => hb3.block b (by exact sz_) (fun h => Nat.not_lt.2 h.1 hb))
    have hex : Ex w w3 := Ch.trans' (show Ex w _ from ext_) hb3 (fun i hi h => absurd h.1 (by (first | omega | (simp only [zA, zC, zD, zN] at *; omega) | (simp only [zA, zC, zD, zN]; omega))))
    clear hb3 hτ3
    go_wp2
    refine bodyPost_ret (v := .tuple #[.agg #[.slice bL bLn bLc, .slice A3 bPn c3, .slice bD bDn bDc, .int .i64 (m.clock + 1), .slice bN bNn bNc, .slice bS bSn bSc], .bool true]) (by simp [results, Try.results17, go_sem, *]) rfl ?_
    refine ⟨_, _, _, _, _, _, _, _, _, _, _, _, _, _, _, τ3, by rw [He.out]; rfl, ?_, ext_⟩
    rw [He.out]
    exact OwM.less (ho3.keepF (by (exact kf_))) (by exact sz_)
theorem iMktTick_c (aL : Option Addr) (aLc aLn : Nat) (aP : Option Addr) (aPc aPn : Nat) (aD : Option Addr) (aDc aDn : Nat) (aN : Option Addr) (aNc aNn : Nat) (aS : Option Addr) (aSc aSn : Nat) (m : Sw.Mkt) (w : World) (hm : RM w 0 aL aLc aLn aP aPc aPn aD aDc aDn aN aNc aNn aS aSc aSn m) (hn : aLn + aPn + aDn + aNn + aSn ≤ 1048576) : Calls Try.prog 16 #[.agg #[.slice aL aLn aLc, .slice aP aPn aPc, .slice aD aDn aDc, .int .i64 m.clock, .slice aN aNn aNc, .slice aS aSn aSc]] w fun E w' => ∃ bL bLc bLn bP bPc bPn bD bDc bDn bN bNc bNn bS bSc bSn τ, E = .returned (.tuple #[.agg #[.slice bL bLn bLc, .slice bP bPn bPc, .slice bD bDn bDc, .int .i64 (Sw.mktTick m).1.clock, .slice bN bNn bNc, .slice bS bSn bSc], .bool (Sw.mktTick m).2]) ∧ OwM τ w' w.heap.size bL bLc bLn bP bPc bPn bD bDc bDn bN bNc bNn bS bSc bSn (Sw.mktTick m).1 ∧ Ex w w' := by
  cases g1 : Sw.mktOk m
  case false =>
    have e : Sw.mktTick m = (⟨[], [], [], 0, [], []⟩, false) := by simp [Sw.mktTick, g1, Sw.mktZ]
    have He := Lib.hid e; clear e
    go_enter Try.func16, Try.ntmps16
    go_wp2_with (first | (go_at_call 23; apply Calls.mono; apply iMktOk_c; ((first | (apply RM.at0; assumption) | (apply OwM.rm0; assumption)); exact kf_); rintro E w1 ⟨rfl, hb⟩; have hst := xr hb; (try simp only [zA, zC, zD, zN] at hst); obtain ⟨hc, hf, hz⟩ := hst))
    refine bodyPost_ret (v := .tuple #[.agg #[.slice none 0 0, .slice none 0 0, .slice none 0 0, .int .i64 0, .slice none 0 0, .slice none 0 0], .bool false]) (by simp [results, Try.results16, go_sem, *]) rfl ?_
    refine ⟨_, _, _, _, _, _, _, _, _, _, _, _, _, _, _, fun _ => 0, by rw [He.out], ?_, ext_⟩
    rw [He.out]
    exact ⟨OwT.nil .., OwT.nil .., OwT.nil .., OwT.nil .., OwT.nil ..⟩
  have hok := (Sw.mktOk_iff.1 g1)
  obtain ⟨rows, hok⟩ := hok
  have hck := hok.clk
  obtain ⟨ck0, ck1⟩ := hck
  clear hok
  by_cases g2 : m.clock = 99999
  · have g2' : (m.clock == 99999) = true := by simp [g2]
    have e : Sw.mktTick m = (m, false) := by simp [Sw.mktTick, g1, g2]
    have He := Lib.hid e; clear e
    have HC := Lib.hid g2; clear g2
    go_enter Try.func16, Try.ntmps16
    go_wp2_with (first | (go_at_call 23; apply Calls.mono; apply iMktOk_c; ((first | (apply RM.at0; assumption) | (apply OwM.rm0; assumption)); exact kf_); rintro E w1 ⟨rfl, hb⟩; have hst := xr hb; (try simp only [zA, zC, zD, zN] at hst); obtain ⟨hc, hf, hz⟩ := hst) | (go_at_call 44; apply Calls.mono; apply iMktClone_c; ((first | (apply RM.at0; assumption) | (apply OwM.rm0; assumption)); exact kf_); (first | assumption | omega); rintro E w1 ⟨bL, bLc, bLn, bP, bPc, bPn, bD, bDc, bDn, bN, bNc, bNn, bS, bSc, bSn, τ, rfl, ho, hb⟩; have hst := xr hb; (try simp only [zA, zC, zD, zN] at hst); obtain ⟨hc, hf, hz⟩ := hst))
    apply Calls.mono
    apply (iTickEnd_c (t := m.clock) (aL := bL) (aLc := bLc) (aLn := bLn) (aP := bP) (aPc := bPc) (aPn := bPn) (aD := bD) (aDc := bDc) (aDn := bDn) (aN := bN) (aNc := bNc) (aNn := bNn) (aS := bS) (aSc := bSc) (aSn := bSn))
    · exact ⟨by simp, by simp [go_sem], by simp [go_sem], by simp [go_sem], by simp [go_sem], by simp [go_sem], by simp [go_sem], fun i => by simp [go_sem]⟩
    · exact HC.out
    rintro E w3 ⟨rfl, hb⟩
    have hst := xr hb; (try simp only [zA, zC, zD, zN] at hst); obtain ⟨hc, hf, hz⟩ := hst
    go_wp2
    refine bodyPost_ret (v := .tuple #[.agg #[.slice bL bLn bLc, .slice bP bPn bPc, .slice bD bDn bDc, .int .i64 m.clock, .slice bN bNn bNc, .slice bS bSn bSc], .bool false]) (by simp [results, Try.results16, go_sem, *]) rfl ?_
    refine ⟨_, _, _, _, _, _, _, _, _, _, _, _, _, _, _, τ, by rw [He.out], ?_, ext_⟩
    rw [He.out]
    exact OwM.less (ho.keepF (by (exact kf_))) (by exact sz_)
  · have g2' : (m.clock == 99999) = false := by simp [g2]
    have e : Sw.mktTick m = (Sw.tick m, true) := by simp [Sw.mktTick, g1, g2]
    have He := Lib.hid e; clear e
    have hck : m.clock < 99999 := by omega
    clear g2
    have l3 := Lib.hid hm.deals.1
    have l2 := Lib.hid hm.purses.1
    go_enter Try.func16, Try.ntmps16
    go_wp2_with (first | (go_at_call 23; apply Calls.mono; apply iMktOk_c; ((first | (apply RM.at0; assumption) | (apply OwM.rm0; assumption)); exact kf_); rintro E w1 ⟨rfl, hb⟩; have hst := xr hb; (try simp only [zA, zC, zD, zN] at hst); obtain ⟨hc, hf, hz⟩ := hst) | (go_at_call 44; apply Calls.mono; apply iMktClone_c; ((first | (apply RM.at0; assumption) | (apply OwM.rm0; assumption)); exact kf_); (first | assumption | omega); rintro E w1 ⟨bL, bLc, bLn, bP, bPc, bPn, bD, bDc, bDn, bN, bNc, bNn, bS, bSc, bSn, τ, rfl, ho, hb⟩; have hst := xr hb; (try simp only [zA, zC, zD, zN] at hst); obtain ⟨hc, hf, hz⟩ := hst))
    apply Calls.mono
    have hgl := ho.glueL (τ' := fun _ => 0) (Nat.le_refl w1.heap.size)
    apply (iTick_c (n := 6) (m := m) (τ := glue τ w1.heap.size (fun _ => 0)) (aL := bL) (aLc := bLc) (aLn := bLn) (aP := bP) (aPc := bPc) (aPn := bPn) (aD := bD) (aDc := bDc) (aDn := bDn) (aN := bN) (aNc := bNc) (aNn := bNn) (aS := bS) (aSc := bSc) (aSn := bSn))
    · exact ⟨by simp, by simp [go_sem], by simp [go_sem], by simp [go_sem], by simp [go_sem], by simp [go_sem], by simp [go_sem], fun i => by simp [go_sem]⟩
    · exact lbc_
    · exact hgl.keepF (by (exact kf_))
    · unfold glue; rw [if_neg (Nat.lt_irrefl _)]
    · exact ck0
    · exact hck
    · have := ho.deals.ow.1; have := l3.out; omega
    · have := ho.purses.ow.1; have := l2.out; omega
    · exact sz_
    rintro E w3 ⟨A3, c3, τ3, rfl, hA3, hL3, ho3, hτ3, hout3, hb3⟩
    have hex : Ex w w3 := Ch.trans' (show Ex w _ from ext_) hb3 (fun i hi h => h.elim (fun h => absurd h (by (first | omega | (simp only [zA, zC, zD, zN] at *; omega) | (simp only [zA, zC, zD, zN]; omega)))) (fun h => absurd h.1 (by (first | omega | (simp only [zA, zC, zD, zN] at *; omega) | (simp only [zA, zC, zD, zN]; omega)))))
    have hlow : ∀ b, b < w.heap.size + 1 + 1 → w3.heap[b]? = w1.heap[b]? := fun b hb => (hb3.block b (by exact sz_) (fun h => h.elim (fun h => absurd h (by (first | omega | (simp only [zA, zC, zD, zN] at *; omega) | (simp only [zA, zC, zD, zN]; omega)))) (fun h => absurd h.1 (by (first | omega | (simp only [zA, zC, zD, zN] at *; omega) | (simp only [zA, zC, zD, zN]; omega)))))).trans (Below.heap_alloc _ _ _ (by exact sz_))
    obtain ⟨hc3, hf3⟩ := low_rules hlow
    obtain ⟨k0, k1, k2, k3, k4, k5, k6, kf⟩ := hA3
    simp only [Nat.zero_add] at k1 k2 k3 k4 k5 k6
    clear hb3 hτ3 hout3 hlow
    go_wp2
    refine bodyPost_ret (v := .tuple #[.agg #[.slice bL bLn bLc, .slice A3 bPn c3, .slice bD bDn bDc, .int .i64 (m.clock + 1), .slice bN bNn bNc, .slice bS bSn bSc], .bool true]) (by simp [results, Try.results16, go_sem, *]) rfl ?_
    refine ⟨_, _, _, _, _, _, _, _, _, _, _, _, _, _, _, τ3, by rw [He.out]; rfl, ?_, ext_⟩
    rw [He.out]
    exact OwM.less (ho3.keepF (by (exact kf_))) (by exact sz_)
end Go.Proofs.Ytimpagcanengoaa

namespace Go.Proofs.Ytimpagcanengoaa
set_option maxRecDepth 100000
set_option linter.unusedSimpArgs false
set_option linter.unusedVariables false
open Go.RowKit Go
set_option maxHeartbeats 4000000

theorem MOk_len {m : Sw.Mkt} {rows : List Sw.Row} (h : Sw.MOk m rows) : m.log.length ≤ 40 ∧ m.purses.length = 5 ∧ m.deals.length ≤ 8 ∧ m.nums.length = 5 ∧ m.said.length = 5 :=
  ⟨(Sw.ownFold_some.1 h.fold).1, (Sw.monOk_iff.1 h.mon).1, h.dlen, h.nlen, h.slen⟩
theorem iMktDo_c (aL : Option Addr) (aLc aLn : Nat) (aP : Option Addr) (aPc aPn : Nat) (aD : Option Addr) (aDc aDn : Nat) (aN : Option Addr) (aNc aNn : Nat) (aS : Option Addr) (aSc aSn : Nat) (m : Sw.Mkt) (r : Sw.Req) (w : World) (hm : RM w 0 aL aLc aLn aP aPc aPn aD aDc aDn aN aNc aNn aS aSc aSn m) (hn : aLn + aPn + aDn + aNn + aSn ≤ 1048576) : Calls Try.prog 26 #[.agg #[.slice aL aLn aLc, .slice aP aPn aPc, .slice aD aDn aDc, .int .i64 m.clock, .slice aN aNn aNc, .slice aS aSn aSc], .agg #[.int .i64 r.user, .int .i64 r.n, .int .i64 r.kind, .int .i64 r.ticket, .int .i64 r.who, .int .i64 r.price]] w fun E w' => ∃ bL bLc bLn bP bPc bPn bD bDc bDn bN bNc bNn bS bSc bSn τ, E = .returned (.tuple #[.agg #[.slice bL bLn bLc, .slice bP bPn bPc, .slice bD bDn bDc, .int .i64 (Sw.mktDo m r).1.clock, .slice bN bNn bNc, .slice bS bSn bSc], .int .i64 (Sw.mktDo m r).2]) ∧ OwM τ w' w.heap.size bL bLc bLn bP bPc bPn bD bDc bDn bN bNc bNn bS bSc bSn (Sw.mktDo m r).1 ∧ Ex w w' := by
  cases g1 : Sw.mktOk m
  case false =>
    have e : Sw.mktDo m r = (⟨[], [], [], 0, [], []⟩, 0) := by simp [Sw.mktDo, g1, Sw.mktZ]
    have He := Lib.hid e; clear e
    go_enter Try.func26, Try.ntmps26
    go_wp2_with (first | (go_at_call 23; apply Calls.mono; apply iMktOk_c; ((first | (apply RM.at0; assumption) | (apply OwM.rm0; assumption)); exact kf_); rintro E w1 ⟨rfl, hb⟩; have hst := xr hb; (try simp only [zA, zC, zD, zN] at hst); obtain ⟨hc, hf, hz⟩ := hst))
    refine bodyPost_ret (v := .tuple #[.agg #[.slice none 0 0, .slice none 0 0, .slice none 0 0, .int .i64 0, .slice none 0 0, .slice none 0 0], .int .i64 0]) (by simp [results, Try.results26, go_sem, *]) rfl ?_
    refine ⟨_, _, _, _, _, _, _, _, _, _, _, _, _, _, _, fun _ => 0, by rw [He.out], ?_, ext_⟩
    rw [He.out]
    exact ⟨OwT.nil .., OwT.nil .., OwT.nil .., OwT.nil .., OwT.nil ..⟩
  cases g2 : Sw.reqOk r
  case false =>
    have e : Sw.mktDo m r = (⟨[], [], [], 0, [], []⟩, 0) := by simp [Sw.mktDo, g1, g2, Sw.mktZ]
    have He := Lib.hid e; clear e
    obtain ⟨ru, rn, rk, rt, rh, rp⟩ := r
    go_enter Try.func26, Try.ntmps26
    go_wp2_with (first | (go_at_call 23; apply Calls.mono; apply iMktOk_c; ((first | (apply RM.at0; assumption) | (apply OwM.rm0; assumption)); exact kf_); rintro E w1 ⟨rfl, hb⟩; have hst := xr hb; (try simp only [zA, zC, zD, zN] at hst); obtain ⟨hc, hf, hz⟩ := hst) | (go_at_call 58; apply Calls.mono; apply (iReqOk_c ⟨ru, rn, rk, rt, rh, rp⟩); rintro E w3 ⟨rfl, hb⟩; rw [g2]; have hst := xr hb; (try simp only [zA, zC, zD, zN] at hst); obtain ⟨hc, hf, hz⟩ := hst))
    refine bodyPost_ret (v := .tuple #[.agg #[.slice none 0 0, .slice none 0 0, .slice none 0 0, .int .i64 0, .slice none 0 0, .slice none 0 0], .int .i64 0]) (by simp [results, Try.results26, go_sem, *]) rfl ?_
    refine ⟨_, _, _, _, _, _, _, _, _, _, _, _, _, _, _, fun _ => 0, by rw [He.out], ?_, ext_⟩
    rw [He.out]
    exact ⟨OwT.nil .., OwT.nil .., OwT.nil .., OwT.nil .., OwT.nil ..⟩
  have hok := (Sw.mktOk_iff.1 g1)
  obtain ⟨rows, hok⟩ := hok
  have e : Sw.mktDo m r = Sw.doIt m r := by simp [Sw.mktDo, g1, g2]
  have He := Lib.hid e; clear e
  have HK := Lib.hid hok
  have HR := Lib.hid g2
  clear hok
  have hk2 := Sw.doIt_ok HK.out HR.out
  obtain ⟨rows2, hk2⟩ := hk2
  have HLn := Lib.hid (MOk_len hk2)
  clear hk2
  obtain ⟨ru, rn, rk, rt, rh, rp⟩ := r
  go_enter Try.func26, Try.ntmps26
  go_wp2_with (first | (go_at_call 23; apply Calls.mono; apply iMktOk_c; ((first | (apply RM.at0; assumption) | (apply OwM.rm0; assumption)); exact kf_); rintro E w1 ⟨rfl, hb⟩; have hst := xr hb; (try simp only [zA, zC, zD, zN] at hst); obtain ⟨hc, hf, hz⟩ := hst) | (go_at_call 58; apply Calls.mono; apply (iReqOk_c ⟨ru, rn, rk, rt, rh, rp⟩); rintro E w3 ⟨rfl, hb⟩; rw [g2]; have hst := xr hb; (try simp only [zA, zC, zD, zN] at hst); obtain ⟨hc, hf, hz⟩ := hst) | (go_at_call 44; apply Calls.mono; apply iMktClone_c; ((first | (apply RM.at0; assumption) | (apply OwM.rm0; assumption)); exact kf_); (first | assumption | omega); rintro E w1 ⟨bL, bLc, bLn, bP, bPc, bPn, bD, bDc, bDn, bN, bNc, bNn, bS, bSc, bSn, τ, rfl, ho, hb⟩; have hst := xr hb; (try simp only [zA, zC, zD, zN] at hst); obtain ⟨hc, hf, hz⟩ := hst))
  have hWc : Ex w (w1.alloc (.cells #[.slice bL bLn bLc, .slice bP bPn bPc, .slice bD bDn bDc, .int .i64 m.clock, .slice bN bNn bNc, .slice bS bSn bSc] 27)) := ext_
  have hz3 : w.heap.size + 3 ≤ w3.heap.size := sz_
  have hz1 : w3.heap.size ≤ w1.heap.size := sz_
  have hS : MS w1.heap.size 0 6 w3.heap.size (glue τ w1.heap.size (fun _ => 0)) (w1.alloc (.cells #[.slice bL bLn bLc, .slice bP bPn bPc, .slice bD bDn bDc, .int .i64 m.clock, .slice bN bNn bNc, .slice bS bSn bSc] 27)) bL bLc bLn bP bPc bPn bD bDc bDn bN bNc bNn bS bSc bSn m (glue τ w1.heap.size (fun _ => 0)) (w1.alloc (.cells #[.slice bL bLn bLc, .slice bP bPn bPc, .slice bD bDn bDc, .int .i64 m.clock, .slice bN bNn bNc, .slice bS bSn bSc] 27)) :=
    MS.start ⟨sz_, by simp [go_sem], by simp [go_sem], by simp [go_sem], by simp [go_sem], by simp [go_sem], by simp [go_sem], fun i => by simp [go_sem]⟩ (Lb.new rfl rfl) ((ho.glueL (Nat.le_refl _)).keepF kf_) (glue0 (Nat.le_refl _)) sz_
  apply Calls.mono
  apply (iDo_c hS ⟨ru, rn, rk, rt, rh, rp⟩ HK.out HR.out)
  rintro E w4 ⟨fL, fLc, fLn, fP, fPc, fPn, fD, fDc, fDn, fN, fNc, fNn, fS, fSc, fSn, τ4, rfl, hm4⟩
  have hS2 : ¬ SG w1.heap.size w3.heap.size (glue τ w1.heap.size (fun _ => 0)) (w.heap.size + 1 + 1) := by
    rintro (h1 | ⟨h1, _⟩)
    · omega
    · omega
  have hr1 := fun i : Nat => hm4.ch.cell (p := ⟨w.heap.size + 1 + 1, i, none⟩) sz_ hS2
  have hr2 := fun i : Nat => hm4.ch.frozen (p := ⟨w.heap.size + 1 + 1, i, none⟩) sz_ hS2
  have hex : Ex w w4 := Ch.trans' hWc hm4.ch (fun i hi h => by
    rcases h with h1 | ⟨h1, _⟩
    · have h1 : i = w1.heap.size := h1
      omega
    · omega)
  obtain ⟨j0, j1, j2, j3, j4, j5, j6, jf⟩ := hm4.at_
  simp only [Nat.zero_add] at j1 j2 j3 j4 j5 j6
  have ho4 := hm4.ow
  have hz4 := hm4.ch.size
  simp only [zA] at hz4
  have hsum : fLn + fPn + fDn + fNn + fSn ≤ 1048576 := by
    obtain ⟨q1, q2, q3, q4, q5⟩ := HLn.out
    have := ho4.log.ow.1; have := ho4.purses.ow.1; have := ho4.deals.ow.1; have := ho4.nums.ow.1; have := ho4.said.ow.1
    omega
  clear hm4 hS ho
  obtain ⟨x, hx⟩ : ∃ x, x = Sw.doIt m ⟨ru, rn, rk, rt, rh, rp⟩ := ⟨_, rfl⟩
  rw [← hx] at ho4 j4 ⊢
  have Hx := Lib.hid hx
  clear hx
  go_wp2_with (go_at_call 44; apply Calls.mono; apply iMktClone_c; (apply OwM.rm0 ho4; (exact kf_)); exact hsum; rintro E w5 ⟨dL, dLc, dLn, dP, dPc, dPn, dD, dDc, dDn, dN, dNc, dNn, dS, dSc, dSn, τ5, rfl, ho5, hb⟩; have hst := xr hb; (try simp only [zA, zC, zD, zN] at hst); obtain ⟨hc, hf, hz⟩ := hst)
  refine bodyPost_ret (v := .tuple #[.agg #[.slice dL dLn dLc, .slice dP dPn dPc, .slice dD dDn dDc, .int .i64 x.1.clock, .slice dN dNn dNc, .slice dS dSn dSc], .int .i64 x.2]) (by simp [results, Try.results26, go_sem, *]) rfl ?_
  refine ⟨_, _, _, _, _, _, _, _, _, _, _, _, _, _, _, τ5, by rw [He.out, ← Hx.out], ?_, ext_⟩
  rw [He.out, ← Hx.out]
  exact OwM.less (ho5.keepF (by (exact kf_))) (by exact sz_)
end Go.Proofs.Ytimpagcanengoaa

namespace Go.Proofs.Ytimpagcanengoaa.Sw
set_option maxRecDepth 100000
set_option linter.unusedSimpArgs false
set_option linter.unusedVariables false
open Go.RowKit (wrap64)

/-! ### who meets -/
def anyFork (a b : List Head) : Bool := a.any fun x => b.any fun y => hedFork x y
theorem forkIn_some {x : Head} {b : List Head} {p : Head × Head} (h : forkIn x b = some p) : p.1 = x ∧ p.2 ∈ b ∧ hedFork p.1 p.2 = true := by
  unfold forkIn at h
  rw [Option.map_eq_some_iff] at h
  obtain ⟨y, hy, rfl⟩ := h
  exact ⟨rfl, List.mem_of_find?_eq_some hy, List.find?_some hy⟩
theorem forkIn_isSome (x : Head) (b : List Head) : (forkIn x b).isSome = b.any fun y => hedFork x y := by
  unfold forkIn
  rw [Option.isSome_map, List.isSome_find?]
theorem findFork (a b : List Head) : (a.findSome? fun x => forkIn x b).isSome = anyFork a b := by
  unfold anyFork
  induction a with
  | nil => rfl
  | cons x a ih =>
    rw [List.findSome?_cons, List.any_cons, ← ih, ← forkIn_isSome]
    cases forkIn x b <;> simp
theorem watMeet_iff {a b : List Head} (ha : watOk a = true) (hb : watOk b = true) : (watMeet a b).isSome = anyFork a b := by
  unfold watMeet
  rw [if_pos (by simp [ha, hb]), findFork]
theorem watMeet_fork {a b : List Head} {p : Head × Head} (h : watMeet a b = some p) : p.1 ∈ a ∧ p.2 ∈ b ∧ hedFork p.1 p.2 = true := by
  unfold watMeet at h
  split at h
  · obtain ⟨x, hx, e⟩ := List.exists_of_findSome?_eq_some h
    obtain ⟨rfl, h2, h3⟩ := forkIn_some e
    exact ⟨hx, h2, h3⟩
  · cases h
theorem watAll_mem {l : List Head} {log : List Ent} (h : watAll l log = true) {x : Head} (hx : x ∈ l) : Of log x := by
  unfold watAll at h
  simp only [Bool.and_eq_true, List.all_eq_true, decide_eq_true_eq] at h
  exact h.2 x hx
theorem watMeet_all {a c : List Head} {log : List Ent} (ha : watAll a log = true) (hc : watAll c log = true) : watMeet a c = none := by
  cases h : watMeet a c with
  | none => rfl
  | some p =>
    obtain ⟨h1, h2, h3⟩ := watMeet_fork h
    rw [Of.nofork (watAll_mem ha h1) (watAll_mem hc h2)] at h3
    cases h3

/-! ### a world at its beginning -/
def newOk (p : List Int) : Bool := monOk p && decide (monSum p ≤ 100000)
theorem wldNew_y {p : List Int} (h : newOk p = true) : wldNew p = ⟨p, ⟨[], p, [], 0, [0, 0, 0, 0, 0], [0, 0, 0, 0, 0]⟩, [], [gatNew, gatNew], []⟩ := by
  unfold newOk at h
  rw [wldNew, if_pos h, mktNew, if_pos h]
theorem wldNew_n {p : List Int} (h : newOk p = false) : wldNew p = worldZ := by
  unfold newOk at h
  rw [wldNew, if_neg (by rw [h]; simp)]
theorem mktNew_y {p : List Int} (h : newOk p = true) : mktNew p = ⟨[], p, [], 0, [0, 0, 0, 0, 0], [0, 0, 0, 0, 0]⟩ := by
  unfold newOk at h
  rw [mktNew, if_pos h]
theorem mktNew_n {p : List Int} (h : newOk p = false) : mktNew p = mktZ := by
  unfold newOk at h
  rw [mktNew, if_neg (by rw [h]; simp)]
theorem newOk_len {p : List Int} (h : newOk p = true) : p.length = 5 := by
  simp only [newOk, Bool.and_eq_true] at h
  exact (monOk_iff.1 h.1).1
theorem wldOk_worldZ : wldOk worldZ = false := by
  simp [wldOk, worldZ, mktOk, mktZ, monOk]
theorem wldOk_new {p : List Int} (h : newOk p = true) : wldOk (wldNew p) = true := by
  simp only [newOk, Bool.and_eq_true, decide_eq_true_eq] at h
  exact wldOk_iff.2 (wldNew_ok h.1 h.2)
theorem wldMoney_new {p : List Int} (h : newOk p = true) : wldMoney (wldNew p) = monSum p := by
  rw [wldNew_y h]
  simp only [newOk, Bool.and_eq_true, decide_eq_true_eq] at h
  have := monSum_bd h.1
  show wrap64 (monSum p + 0) = monSum p
  rw [Int.add_zero]
  unfold wrap64; omega
theorem gatNew_size : gatNew.head.size = 0 := by
  have : hedOf [] = some ⟨0, root [], ownRoot rows0⟩ := rfl
  rw [gatNew, this]
  rfl
end Go.Proofs.Ytimpagcanengoaa.Sw

namespace Go.Proofs.Ytimpagcanengoaa
set_option maxRecDepth 100000
set_option linter.unusedSimpArgs false
set_option linter.unusedVariables false
open Go.RowKit Go
set_option maxHeartbeats 1000000

theorem OwM.zero {w : World} {lo : Nat} {τ : Nat → Nat} : OwM τ w lo none 0 0 none 0 0 none 0 0 none 0 0 none 0 0 Sw.mktZ := ⟨OwT.nil .., OwT.nil .., OwT.nil .., OwT.nil .., OwT.nil ..⟩
/-- The pieces' state, where so many operations are still to come. -/
structure NewS (A : Option Addr) (c : Nat) (xs : List Int) (w W0 : World) (n : Nat) (l : Array Bool) (a : Act) (wx : World) : Prop where
  keep : KF 0 w wx
  held : HeldB (w.heap.size) 6 W0 wx
  up : W0.heap.size ≤ wx.heap.size
  st : ∃ (l0 r0 r1 r2 : Bool) (v0 u0 u1 u2 : Value) (τ : Nat → Nat), n = cb l0 + cb r0 + cb r1 + cb r2 ∧ l = #[l0, true, r0, r1, r2, false, false] ∧ a = ⟨#[.slice A 5 c, undef, .pointer (some ⟨w.heap.size, 0, none⟩), .slice A 5 c, .bool true, .bool false, .bool false, .slice A 5 c, .int .i64 (Sw.monSum xs), .bool false, .bool false, undef, v0, .slice A 5 c, u0, u1, u2, undef], []⟩ ∧ CopySt encI 1 3 τ 2 wx W0.heap.size 5 xs l0 r0 v0 u0 ∧ MakeSt encI 1 3 τ 4 wx W0.heap.size 5 (List.replicate 5 (0 : Int)) r1 u1 ∧ MakeSt encI 1 3 τ 5 wx W0.heap.size 5 (List.replicate 5 (0 : Int)) r2 u2
/-- The pieces' state, where so many operations are still to come. -/
structure NewI (A : Option Addr) (c : Nat) (xs : List Int) (w W0 : World) (n : Nat) (l : Array Bool) (a : Act) (wx : World) : Prop where
  keep : KF 0 w wx
  held : HeldB (w.heap.size) 6 W0 wx
  up : W0.heap.size ≤ wx.heap.size
  st : ∃ (r0 r1 r2 : Bool) (u0 u1 u2 : Value) (τ : Nat → Nat), n = cb r0 + cb r1 + cb r2 ∧ l = #[true, r0, r1, r2, false, false] ∧ a = ⟨#[.slice A 5 c, undef, .pointer (some ⟨w.heap.size, 0, none⟩), .slice A 5 c, .bool true, .bool false, .bool false, .slice A 5 c, .int .i64 (Sw.monSum xs), .bool false, .bool false, undef, .slice A 5 c, u0, u1, u2, undef], []⟩ ∧ MakeSt encI 1 3 τ 2 wx W0.heap.size 5 xs r0 u0 ∧ MakeSt encI 1 3 τ 4 wx W0.heap.size 5 (List.replicate 5 (0 : Int)) r1 u1 ∧ MakeSt encI 1 3 τ 5 wx W0.heap.size 5 (List.replicate 5 (0 : Int)) r2 u2
theorem sMktNew_c (A : Option Addr) (c n : Nat) (xs : List Int) (w : World) (hxs : RI w 0 A c n xs) : Calls Try.prog 84 #[.slice A n c] w fun E w' => ∃ bL bLc bLn bP bPc bPn bD bDc bDn bN bNc bNn bS bSc bSn τ, E = .returned (.agg #[.slice bL bLn bLc, .slice bP bPn bPc, .slice bD bDn bDc, .int .i64 (Sw.mktNew xs).clock, .slice bN bNn bNc, .slice bS bSn bSc]) ∧ OwM τ w' w.heap.size bL bLc bLn bP bPc bPn bD bDc bDn bN bNc bNn bS bSc bSn (Sw.mktNew xs) ∧ Ex w w' := by
  cases g1 : Sw.monOk xs
  case false =>
    have e : Sw.mktNew xs = Sw.mktZ := by rw [Sw.mktNew, g1]; rfl
    have He := Lib.hid e; clear e
    go_enter Try.func84, Try.ntmps84
    go_wp2_with (first | (go_at_call 50; apply Calls.mono; apply sMonOk_c; ((first | (apply Rs.at0; assumption) | (apply Ow.rs0; assumption) | (apply OwT.rs0; assumption)); exact kf_); rintro E w' ⟨rfl, rfl⟩))
    refine bodyPost_ret (v := .agg #[.slice none 0 0, .slice none 0 0, .slice none 0 0, .int .i64 0, .slice none 0 0, .slice none 0 0]) (by simp [results, Try.results84, go_sem, *]) rfl ?_
    refine ⟨_, _, _, _, _, _, _, _, _, _, _, _, _, _, _, fun _ => 0, by rw [He.out]; rfl, ?_, ext_⟩
    rw [He.out]
    exact OwM.zero
  have h5 := monOk_len g1
  have hn5 : n = 5 := by rw [hxs.1, h5]
  subst hn5
  clear h5
  by_cases g2 : Sw.monSum xs ≤ 100000
  case neg =>
    have e : Sw.mktNew xs = Sw.mktZ := by simp [Sw.mktNew, g1, g2]
    have He := Lib.hid e; clear e
    have g2' : decide (100000 < Sw.monSum xs) = true := by simp; omega
    go_enter Try.func84, Try.ntmps84
    go_wp2_with (first | (go_at_call 50; apply Calls.mono; apply sMonOk_c; ((first | (apply Rs.at0; assumption) | (apply Ow.rs0; assumption) | (apply OwT.rs0; assumption)); exact kf_); rintro E w' ⟨rfl, rfl⟩) | (go_at_call 53; apply Calls.mono; apply sMonSum_c; ((first | (apply Rs.at0; assumption) | (apply Ow.rs0; assumption) | (apply OwT.rs0; assumption)); exact kf_); rintro E w' ⟨rfl, rfl⟩))
    refine bodyPost_ret (v := .agg #[.slice none 0 0, .slice none 0 0, .slice none 0 0, .int .i64 0, .slice none 0 0, .slice none 0 0]) (by simp [results, Try.results84, go_sem, *]) rfl ?_
    refine ⟨_, _, _, _, _, _, _, _, _, _, _, _, _, _, _, fun _ => 0, by rw [He.out]; rfl, ?_, ext_⟩
    rw [He.out]
    exact OwM.zero
  have e : Sw.mktNew xs = ⟨[], xs, [], 0, [0, 0, 0, 0, 0], [0, 0, 0, 0, 0]⟩ := by simp [Sw.mktNew, g1, g2]
  have He := Lib.hid e; clear e
  have g2' : decide (100000 < Sw.monSum xs) = false := by simp; omega
  go_enter Try.func84, Try.ntmps84
  go_wp2_with (first | (go_at_call 50; apply Calls.mono; apply sMonOk_c; ((first | (apply Rs.at0; assumption) | (apply Ow.rs0; assumption) | (apply OwT.rs0; assumption)); exact kf_); rintro E w' ⟨rfl, rfl⟩) | (go_at_call 53; apply Calls.mono; apply sMonSum_c; ((first | (apply Rs.at0; assumption) | (apply Ow.rs0; assumption) | (apply OwT.rs0; assumption)); exact kf_); rintro E w' ⟨rfl, rfl⟩))
  (refine wp_name ?_; intro W0 hb0; have hst := xr hb0; (try simp only [zA, zC, zD, zN] at hst); obtain ⟨hc0, hf0, hz0⟩ := hst; have hLb : Lb W0 (w.heap.size) 6 := Lb.ex (by exact lbc_) hb0; refine wp_region_held_drew (S := fun w' => HeldB (w.heap.size) 6 W0 w') (by kernel_rfl) ?_ (fun hHeld => ?_); (focus ((try dsimp only); (first | with_reducible assumption | with_reducible exact HeldB.start hLb | with_reducible exact HeldB.of (by assumption) (by assumption) | ((repeat (first | with_reducible refine HeldB.set ?_ (by first | exact Or.inl rfl | exact Or.inr (by simp only [zA, zC, zD, zN]; omega) | exact Or.inr (by omega)) | with_reducible refine HeldB.alloc ?_ _ | with_reducible refine HeldB.drew ?_)); (first | with_reducible assumption | with_reducible exact HeldB.refl hLb | with_reducible exact HeldB.of (by assumption) (by assumption) | with_reducible exact HeldB.ex (by assumption) (by assumption)))))); refine regT 1 13 (v := ?_) rfl rfl (by kernel_rfl) (by kernel_rfl) (by kernel_rfl) (fun _ _ _ h => h) (by rfl) ?_ (by assumption) ?_; rotate_left; (focus (intro w hSw; (try dsimp only at hSw); (try (have hst := xc (HeldB.ch hSw); (try simp only [zA, zC, zD, zN] at hst); obtain ⟨hcS, hfS, hzS⟩ := hst)); go_simp; (try with_reducible rfl))); (try simp only [Act.put, List.setIfInBounds_toArray, List.set_cons_zero, List.set_cons_succ]))
  have hlt0 : w.heap.size < W0.heap.size := hLb.lt
  refine wpAnyH_inv (Inv := NewS A c xs w W0) (k := 2) ?_ ?_ ?_ 4 _ _ _ ?_
  case refine_4 =>
    exact ⟨by (exact kf_), hHeld, Nat.le_refl _, false, false, false, false, undef, undef, undef, undef, fun _ => 0, rfl, by kernel_rfl, rfl, .none _ _, .none _, .none _⟩
  case refine_1 =>
    rintro l a wx ⟨hk, hHeld, hup, l0, r0, r1, r2, v0, u0, u1, u2, τ, hn0, rfl, rfl, C0, C1, C2⟩
    obtain rfl : l0 = true := by cases l0 <;> first | rfl | (exfalso; revert hn0; simp [cb]; done) | (exfalso; revert hn0; simp [cb]; omega)
    obtain rfl : r0 = true := by cases r0 <;> first | rfl | (exfalso; revert hn0; simp [cb]; done) | (exfalso; revert hn0; simp [cb]; omega)
    obtain rfl : r1 = true := by cases r1 <;> first | rfl | (exfalso; revert hn0; simp [cb]; done) | (exfalso; revert hn0; simp [cb]; omega)
    obtain rfl : r2 = true := by cases r2 <;> first | rfl | (exfalso; revert hn0; simp [cb]; done) | (exfalso; revert hn0; simp [cb]; omega)
    obtain ⟨A0, c0, rfl, t0⟩ : ∃ A c, u0 = .slice A 5 c ∧ OwT encI 1 3 τ 2 wx W0.heap.size A c 5 xs := by (cases C0; exact ⟨_, _, rfl, by assumption⟩)
    obtain ⟨A1, c1, rfl, t1⟩ : ∃ A c, u1 = .slice A 5 c ∧ OwT encI 1 3 τ 4 wx W0.heap.size A c 5 (List.replicate 5 (0 : Int)) := by (cases C1; exact ⟨_, _, rfl, by assumption⟩)
    obtain ⟨A2, c2, rfl, t2⟩ : ∃ A c, u2 = .slice A 5 c ∧ OwT encI 1 3 τ 5 wx W0.heap.size A c 5 (List.replicate 5 (0 : Int)) := by (cases C2; exact ⟨_, _, rfl, by assumption⟩)
    clear C0 C1 C2 hn0
    refine regT 5 17 (v := ?_) rfl rfl (by kernel_rfl) (by kernel_rfl) (by kernel_rfl) (fun _ _ _ h => h) (by rfl) ?_ (by assumption) ?_
    rotate_left
    focus (intro w hSw; (try dsimp only at hSw); go_simp; (try with_reducible rfl))
    try simp only [Act.put, List.setIfInBounds_toArray, List.set_cons_zero, List.set_cons_succ]
    refine wpAnyH_ready (rs := [6]) (by kernel_rfl) (by simp) ?_
    refine AllReadyH.cons rfl (fun K hK => ?_) ?_
    rotate_left
    focus exact AllReadyH.nil
    have hLbx := hHeld.lb
    obtain ⟨hcx, hfx⟩ := Lb.rules hLbx
    go_simp
    refine hK.out _ _ ?_ (fun hHx => ?_)
    focus ((first | with_reducible assumption | with_reducible exact HeldB.start hLb | with_reducible exact HeldB.of (by assumption) (by assumption) | ((repeat (first | with_reducible refine HeldB.set ?_ (by first | exact Or.inl rfl | exact Or.inr (by simp only [zA, zC, zD, zN]; omega) | exact Or.inr (by omega)) | with_reducible refine HeldB.alloc ?_ _ | with_reducible refine HeldB.drew ?_)); (first | with_reducible assumption | with_reducible exact HeldB.refl hLb | with_reducible exact HeldB.of (by assumption) (by assumption) | with_reducible exact HeldB.ex (by assumption) (by assumption)))))
    have hb := hHeld.ch
    clear hK K hHeld hcx hfx hLbx
    (have hst := xc hb; (try simp only [zA, zC, zD, zN] at hst); obtain ⟨hc, hf, hz⟩ := hst)
    have hLb3 := HeldB.lb hHx
    repeat (replace hLb3 := Lb.unset hLb3)
    obtain ⟨hcb, hfb⟩ := Lb.rules hLb3
    have hbf := HeldB.ch hHx
    clear hHx
    refine wpAnyH_done (by kernel_rfl) ?_ _
    go_wp2
    refine bodyPost_ret (v := .agg #[.slice none 0 0, .slice A0 5 c0, .slice none 0 0, .int .i64 0, .slice A1 5 c1, .slice A2 5 c2]) (by simp [results, Try.results84, go_sem, *]) rfl ?_
    refine ⟨_, _, _, _, _, _, _, _, _, _, _, _, _, _, _, τ, by rw [He.out], ?_, ext_⟩
    rw [He.out]
    exact ⟨OwT.nil .., (t0.keepF (by (exact kf_))).less (by omega), OwT.nil .., (t1.keepF (by (exact kf_))).less (by omega), (t2.keepF (by (exact kf_))).less (by omega)⟩
  case refine_2 =>
    rintro n l a wx ⟨hk, hHeld, hup, l0, r0, r1, r2, v0, u0, u1, u2, τ, hn0, rfl, rfl, C0, C1, C2⟩ he
    obtain rfl : l0 = true := by (cases l0 with | true => rfl | false => exact absurd he (ready_ne (i := 0) (by kernel_rfl)))
    obtain rfl : r0 = true := by (cases r0 with | true => rfl | false => exact absurd he (ready_ne (i := 2) (by kernel_rfl)))
    obtain rfl : r1 = true := by (cases r1 with | true => rfl | false => exact absurd he (ready_ne (i := 3) (by kernel_rfl)))
    obtain rfl : r2 = true := by (cases r2 with | true => rfl | false => exact absurd he (ready_ne (i := 4) (by kernel_rfl)))
    simp [cb] at hn0
  case refine_3 =>
    rintro n l a wx ⟨hk, hHeld, hup, l0, r0, r1, r2, v0, u0, u1, u2, τ, hn0, rfl, rfl, C0, C1, C2⟩ i hi
    obtain ⟨hi0, oi, ho, hdep⟩ := mem_ready.1 hi
    clear hi
    have hin : i < 7 := (Array.getElem?_eq_some_iff.1 ho).1
    rcases (show i = 0 ∨ i = 1 ∨ i = 2 ∨ i = 3 ∨ i = 4 ∨ i = 5 ∨ i = 6 by omega) with rfl | rfl | rfl | rfl | rfl | rfl | rfl
    · -- 0
      obtain rfl : l0 = false := hi0
      cases C0
      clear ho hdep
      refine wpOp_step rfl fun K hK => ?_
      go_simp
      refine hK _ _ ⟨hHeld.alloc _, hk.alloc, hHeld.alloc _, (by simp; omega), true, false, r1, r2, .slice (some ⟨wx.heap.size, 0, none⟩) 0 0, u0, u1, u2, glue τ wx.heap.size (fun _ => 2), ?_, rfl, rfl, .made _ _ _ (OwT.begun (Ow.new [] rfl rfl rfl (fun _ => rfl) (by omega) (by omega))), C1.alloc, C2.alloc⟩
      simp only [cb] at hn0 ⊢; simp at hn0 ⊢; omega
    · -- 1
      exact Bool.noConfusion (show true = false from hi0)
    · -- 2
      obtain rfl : r0 = false := hi0
      obtain rfl := Option.some.inj (show some _ = some oi from ho)
      have d := hdep ⟨0, .data⟩ (by simp) rfl
      obtain rfl : l0 = true := d
      clear ho hdep
      obtain ⟨Ax, cx, rfl, ht⟩ : ∃ A c, v0 = .slice A 0 c ∧ OwT encI 1 3 τ 2 wx W0.heap.size A c 0 [] := by (cases C0; exact ⟨_, _, rfl, by assumption⟩)
      clear C0
      refine wpOp_step rfl fun K hK => ?_
      apply step_app el_I one_I rfl rfl rfl rfl ht.ow (Rs.at0 hxs hk) (by omega) hup
      intro A1 c1 w2 ho1 hch1 hat1 hex1 hlow1
      rw [List.nil_append] at ho1; simp only [Nat.zero_add] at ho1
      have hbx := hex1 (· = (w.heap.size)) W0 hHeld.ch (Nat.le_refl _)
      have hlbx := Lb.low hlow1 hlt0 hHeld.lb
      simp only [Nat.zero_add]
      have hKF : KF 0 w w2 := kL ⟨hch1.size, hlow1⟩ hk (by omega)
      refine hK _ _ ⟨HeldB.of hbx hlbx, hKF, HeldB.of hbx hlbx, Nat.le_trans hup hch1.size, true, true, r1, r2, .slice Ax 0 cx, .slice A1 5 c1, u1, u2, glue τ wx.heap.size (fun _ => 2), ?_, rfl, rfl, .done _ _ _ (OwT.full ho1 ht hat1), C1.app hch1 ht.tag (by decide), C2.app hch1 ht.tag (by decide)⟩
      simp only [cb] at hn0 ⊢; simp at hn0 ⊢; omega
    · -- 3
      obtain rfl : r1 = false := hi0
      cases C1
      clear ho hdep
      refine wpOp_step rfl fun K hK => ?_
      apply step_mk (lo := wx.heap.size) el_I (0 : Int) z_I rfl rfl rfl rfl rfl (by first | decide | omega) (by first | decide | (unfold maxLen; omega)) (Nat.le_refl _)
      intro w2 ho1 hb1 hz1
      refine hK _ _ ⟨hHeld.ex hb1, kE hb1 hk, hHeld.ex hb1, (by omega), l0, r0, true, r2, v0, u0, .slice (some ⟨wx.heap.size, 0, none⟩) 5 5, u2, glue τ wx.heap.size (fun _ => 4), ?_, rfl, rfl, C0.ex hb1, .done _ _ (OwT.newT ho1 (Nat.le_refl _) hup), C2.ex hb1⟩
      simp only [cb] at hn0 ⊢; simp at hn0 ⊢; omega
    · -- 4
      obtain rfl : r2 = false := hi0
      cases C2
      clear ho hdep
      refine wpOp_step rfl fun K hK => ?_
      apply step_mk (lo := wx.heap.size) el_I (0 : Int) z_I rfl rfl rfl rfl rfl (by first | decide | omega) (by first | decide | (unfold maxLen; omega)) (Nat.le_refl _)
      intro w2 ho1 hb1 hz1
      refine hK _ _ ⟨hHeld.ex hb1, kE hb1 hk, hHeld.ex hb1, (by omega), l0, r0, r1, true, v0, u0, u1, .slice (some ⟨wx.heap.size, 0, none⟩) 5 5, glue τ wx.heap.size (fun _ => 5), ?_, rfl, rfl, C0.ex hb1, C1.ex hb1, .done _ _ (OwT.newT ho1 (Nat.le_refl _) hup)⟩
      simp only [cb] at hn0 ⊢; simp at hn0 ⊢; omega
    · -- 5
      obtain rfl := Option.some.inj (show some _ = some oi from ho)
      obtain rfl : r0 = true := hdep ⟨2, .data⟩ (by simp) rfl
      obtain rfl : l0 = true := by (cases C0; rfl)
      obtain rfl : r1 = true := hdep ⟨3, .data⟩ (by simp) rfl
      obtain rfl : r2 = true := hdep ⟨4, .data⟩ (by simp) rfl
      simp [cb] at hn0
    · -- 6
      obtain rfl := Option.some.inj (show some _ = some oi from ho)
      exact Bool.noConfusion (show false = true from hdep ⟨5, .data⟩ (by simp) rfl)
end Go.Proofs.Ytimpagcanengoaa

namespace Go.Proofs.Ytimpagcanengoaa
set_option maxRecDepth 100000
set_option linter.unusedSimpArgs false
set_option linter.unusedVariables false
open Go.RowKit Go
set_option maxHeartbeats 400000

/-- n numbers from k on. -/
def marks : Int → Nat → List Int
  | _, 0 => []
  | k, n + 1 => k :: marks (k + 1) n
theorem marks_len : ∀ (n : Nat) (k : Int), (marks k n).length = n
  | 0, _ => rfl
  | n + 1, k => by rw [marks, List.length_cons, marks_len n]
theorem marks_at : ∀ (n j : Nat) (k : Int), j < n → (marks k n)[j]? = some (k + j)
  | 0, j, k, h => absurd h (Nat.not_lt_zero _)
  | n + 1, 0, k, _ => by simp [marks]
  | n + 1, j + 1, k, h => by
    rw [marks, List.getElem?_cons_succ, marks_at n j (k + 1) (by omega)]
    congr 1; omega
theorem marks_succ : ∀ (n : Nat) (k : Int), marks k (n + 1) = marks k n ++ [k + n]
  | 0, k => by simp [marks]
  | n + 1, k => by
    rw [marks, marks_succ n (k + 1)]
    simp only [marks, List.cons_append, List.cons.injEq, true_and]
    congr 2; omega
theorem marks_set {xs : List Int} {k : Int} {j n : Nat} (hn : n = xs.length) (hj : j < n) : (marks k j ++ xs.drop j).set j (k + j) = marks k (j + 1) ++ xs.drop (j + 1) := by
  rw [List.set_append_right _ _ (by rw [marks_len]; omega), marks_len, Nat.sub_self, marks_succ, List.append_assoc]
  congr 1
  rw [List.drop_eq_getElem_cons (by omega), List.set_cons_zero]
  rfl
theorem marks_old {xs : List Int} {k : Int} {j n : Nat} (hn : n = xs.length) (hj : j < n) : ∃ y, (marks k j ++ xs.drop j)[j]? = some y := by
  refine ⟨xs[j]'(by omega), ?_⟩
  rw [List.getElem?_append_right (by rw [marks_len]; omega), marks_len, Nat.sub_self, List.getElem?_drop]
  simp

end Go.Proofs.Ytimpagcanengoaa

namespace Go.Proofs.Ytimpagcanengoaa
set_option maxRecDepth 100000
set_option linter.unusedSimpArgs false
set_option linter.unusedVariables false
open Go.RowKit Go
set_option maxHeartbeats 1000000

def FI (zs : List Int) : List Value := zs.map (Value.int .i64)
/-- An owned slice of structs of sz numbers, by its cells. -/
structure OwFl (sz : Nat) (e : TypeId) (w : World) (lo : Nat) (A : Option Addr) (c n : Nat) (zs : List Int) : Prop where
  len : n * sz = zs.length
  owns : w.ownsRow lo e sz (.slice A n c) n (FI zs)
section
variable {sz : Nat} {e : TypeId} {w w' : World} {lo lo' c n k : Nat} {A : Option Addr} {zs : List Int}
theorem OwFl.of {α : Type} {enc : α → List Value} {f : α → List Int} {xs : List α} (h : Ow enc sz e w lo A c n xs) (hf : ∀ x, enc x = FI (f x)) (hl : ∀ x, (f x).length = sz) : OwFl sz e w lo A c n (xs.flatMap f) := by
  have e1 : xs.flatMap enc = FI (xs.flatMap f) := by
    clear h
    induction xs with
    | nil => rfl
    | cons x xs ih => rw [List.flatMap_cons, List.flatMap_cons, ih, hf]; simp [FI]
  have e2 : (xs.flatMap f).length = xs.length * sz := by
    clear h e1
    induction xs with
    | nil => simp
    | cons x xs ih => simp only [List.flatMap_cons, List.length_append, hl, ih, List.length_cons, Nat.succ_mul]; omega
  exact ⟨by rw [e2, h.1], by rw [← e1]; exact h.2⟩
theorem OwFl.form (h : OwFl sz e w lo A c n zs) : (A = none ∧ n = 0 ∧ c = 0) ∨ ∃ g cur, A = some ⟨g, 0, none⟩ ∧ lo ≤ g ∧ g < w.heap.size ∧ w.heap[g]? = some (.cells cur e (0, 0)) ∧ n ≤ c ∧ c ≤ maxLen ∧ cur.size = c * sz ∧ cur.toList.take (n * sz) = FI zs := by
  rcases h.owns.2 with ⟨hv, h0⟩ | ⟨g, cap, cur, hv, hb, hh, hn, hm, hs, ht⟩
  · injection hv with h1 h2 h3; exact .inl ⟨h1, h2, h3⟩
  · injection hv with h1 h2 h3
    subst h3
    exact .inr ⟨g, cur, h1, hb, (Array.getElem?_eq_some_iff.1 hh).1, hh, hn, hm, hs, ht⟩
theorem OwFl.keep_ (h : OwFl sz e w lo A c n zs) (hk : ∀ a, A = some a → w'.heap[a.block]? = w.heap[a.block]?) : OwFl sz e w' lo A c n zs := by
  refine ⟨h.len, h.owns.1, ?_⟩
  rcases h.owns.2 with hv | ⟨g, cap, cur, hv, hb, hh, r⟩
  · exact .inl hv
  · have hA : A = some ⟨g, 0, none⟩ := by injection hv
    exact .inr ⟨g, cap, cur, hv, hb, (hk _ hA).trans hh, r⟩
theorem OwFl.blk (h : OwFl sz e w lo A c n zs) {a : Addr} (ha : A = some a) : lo ≤ a.block ∧ a.block < w.heap.size := by
  rcases h.form with ⟨h1, _⟩ | ⟨g, cur, h1, h2, h3, _⟩
  · rw [h1] at ha; cases ha
  · rw [h1] at ha; cases ha; exact ⟨h2, h3⟩
theorem OwFl.cell (h : OwFl sz e w lo A c n zs) {i : Nat} (hi : i < n * sz) : ∃ g z, A = some ⟨g, 0, none⟩ ∧ lo ≤ g ∧ g < w.heap.size ∧ w.cell? ⟨g, i, none⟩ = some (.int .i64 z) ∧ ∀ i, w.frozen? ⟨g, i, none⟩ = false := by
  rcases h.form with ⟨_, h1, _⟩ | ⟨g, cur, h1, h2, h3, h4, _, _, _, h5⟩
  · subst h1; simp at hi
  · have hz : i < zs.length := by rw [← h.len]; exact hi
    have h6 : cur[i]? = some (.int .i64 zs[i]) := by
      have h7 := congrArg (fun l : List Value => l[i]?) h5
      simp only [List.getElem?_take, if_pos hi, FI, List.getElem?_map, List.getElem?_eq_getElem hz, Option.map_some] at h7
      rw [← h7]; simp
    refine ⟨g, zs[i], h1, h2, h3, ?_, fun i => by simp [World.frozen?, h4]⟩
    simp [World.cell?, h4, h6]
theorem marks_app : ∀ (a b : Nat) (k : Int), marks k (a + b) = marks k a ++ marks (k + a) b
  | 0, b, k => by simp [marks]
  | a + 1, b, k => by
    rw [show a + 1 + b = (a + b) + 1 from by omega, marks, marks, marks_app a b (k + 1), List.cons_append]
    congr 3; omega
theorem OwFl.put {z0 : List Int} {k : Int} {j g : Nat} (h : OwFl sz e w lo (some ⟨g, 0, none⟩) c n (marks k (j * sz) ++ z0.drop (j * sz))) (hl : n * sz = z0.length) (hj : j < n) :
    OwFl sz e (setCells w g (j * sz) (FI (marks (k + (j : Int) * sz) sz))) lo (some ⟨g, 0, none⟩) c n (marks k ((j + 1) * sz) ++ z0.drop ((j + 1) * sz)) := by
  have h1 : (j + 1) * sz = j * sz + sz := Nat.succ_mul j sz
  have h2 : j * sz + sz ≤ n * sz := by rw [← h1]; exact Nat.mul_le_mul_right _ hj
  have hm : ∀ (a : Int) (b : Nat), (FI (marks a b)).length = b := fun a b => by simp [FI, marks_len]
  have hle : j * sz + (FI (marks (k + (j : Int) * sz) sz)).length ≤ (FI (marks k (j * sz) ++ z0.drop (j * sz))).length := by
    rw [hm]
    simp only [FI, List.length_map, List.length_append, marks_len, List.length_drop]
    omega
  have := ownsRow_sets _ _ w h.owns hle
  rw [setMany_eq _ _ _ hle, hm] at this
  have e1 : (FI (marks k (j * sz) ++ z0.drop (j * sz))).take (j * sz) = FI (marks k (j * sz)) := by
    unfold FI
    rw [List.map_append, List.take_append_of_le_length (by simp [marks_len]), List.take_of_length_le (by simp [marks_len])]
  have e2 : (FI (marks k (j * sz) ++ z0.drop (j * sz))).drop (j * sz + sz) = FI (z0.drop ((j + 1) * sz)) := by
    unfold FI
    rw [List.map_append, List.drop_append, List.drop_of_length_le (by simp [marks_len]), List.length_map, marks_len, List.nil_append, ← List.map_drop, List.drop_drop, h1]
    congr 2; omega
  rw [e1, e2] at this
  refine ⟨by simp only [List.length_append, marks_len, List.length_drop]; omega, ?_⟩
  have e3 : FI (marks k ((j + 1) * sz) ++ z0.drop ((j + 1) * sz)) = FI (marks k (j * sz)) ++ FI (marks (k + (j : Int) * sz) sz) ++ FI (z0.drop ((j + 1) * sz)) := by
    rw [h1, marks_app]
    simp [FI]
  rw [e3]
  exact this
theorem setCells_ch {S : Nat → Prop} {w0 : World} {g : Nat} : ∀ {vs : List Value} {w : World} {i : Nat}, Ch S w0 w → S g → Ch S w0 (setCells w g i vs)
  | [], _, _, h, _ => h
  | v :: vs, w, i, h, hg => setCells_ch (vs := vs) (h.setCell (p := ⟨g, i, none⟩) (Or.inl hg) v) hg
theorem OwFl.rd (h : OwFl sz e w lo A c n zs) : Rd w lo A c sz n (FI zs) := Rd.of_own h.owns
/-- What marks may be read. -/
theorem Rd.marks {k : Int} {N : Nat} (h : Rd w lo A c sz n (FI (Go.Proofs.Ytimpagcanengoaa.marks k N))) (hn : 0 < n) : ∃ g off, A = some ⟨g, off, none⟩ ∧ ∀ i, i < N → w.cell? ⟨g, off + i, none⟩ = some (.int .i64 (k + (i : Nat))) := by
  cases A with
  | none => have := h.nil rfl; have := h.le; omega
  | some a =>
    obtain ⟨h1, h2, h3, h4⟩ := h.cells a rfl hn
    obtain ⟨g, off, spot⟩ := a
    dsimp only at h1 h2 h3 h4
    subst h1
    refine ⟨g, off, rfl, fun i hi => h4 i _ ?_⟩
    simp only [FI, List.getElem?_map, marks_at N i k hi, Option.map_some]
end
def Sw.Ent.ints (x : Sw.Ent) : List Int := [x.kind, x.ticket, x.who, x.price]
def Sw.Deal.ints (x : Sw.Deal) : List Int := [x.ticket, x.seller, x.price, x.buyer, x.due]
def Sw.Req.ints (x : Sw.Req) : List Int := [x.user, x.n, x.kind, x.ticket, x.who, x.price]

end Go.Proofs.Ytimpagcanengoaa

