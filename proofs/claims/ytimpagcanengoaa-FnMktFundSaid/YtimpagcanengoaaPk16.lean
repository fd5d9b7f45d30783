/-
  Texts joined: DrawA, Law4, SwM, PtrL.
-/
import Derived.Test.YtimpagcanengoaaPk15
import Derived.Test.YtimpagcanengoaaPk13
import Derived.Test.YtimpagcanengoaaPk3
import Derived.Test.YtimpagcanengoaaPk11
namespace Go.Proofs.Ytimpagcanengoaa
set_option maxRecDepth 100000
set_option linter.unusedSimpArgs false
set_option linter.unusedVariables false
open Go.RowKit Go
set_option maxHeartbeats 4000000

/-- Ex, where a rule that drops does not see it. -/
structure ExH (a b : World) : Prop where
  out : Ex a b
theorem l21Any_c (rb P : Nat) (n : Int) (w : World) (hr : Rdp w rb P) (hP : P ≤ 100000) (h1 : 1 ≤ n) (h2 : n ≤ 1000000) : Calls Try.prog 42 #[.pointer (some ⟨rb, 0, none⟩), .int .i64 n] w fun E w' => ∃ eL eLc eLn eP ePc ePn eD eDc eDn eN eNc eNn eS eSc eSn x, E = .returned (.agg #[.slice eL eLn eLc, .slice eP ePn ePc, .slice eD eDn eDc, .int .i64 x.clock, .slice eN eNn eNc, .slice eS eSn eSc]) ∧ RM w' w.heap.size eL eLc eLn eP ePc ePn eD eDc eDn eN eNc eNn eS eSc eSn x ∧ eLn + ePn + eDn + eNn + eSn ≤ 110 ∧ Rdp w' rb (P + 3000) ∧ Ch (· = rb) w w' := by
  have hlt := hr.lt
  go_enter Try.func42, Try.ntmps42
  go_wp2_with fail
  apply Calls.mono
  apply l21Market_c
  · apply Rdp.keep hr; (exact kb_)
  · exact hP
  rintro E w1 ⟨aL, aLc, aLn, aP, aPc, aPn, aD, aDc, aDn, aN, aNc, aNn, aS, aSc, aSn, m, rfl, hM, hok, -, hrd, hb⟩
  (have hst := xc hb; (try simp only [zA, zC, zD, zN] at hst); obtain ⟨hc, hf, hz⟩ := hst)
  obtain ⟨rows, hok⟩ := Sw.mktOk_iff.1 hok
  have hlen := hM.len
  obtain ⟨q1, q2, q3, q4, q5⟩ := MOk_len hok
  simp only [Sw.Mkt.len] at hlen
  have N4 := Lib.hid (show aNn = 5 from hM.nums.1.trans q4)
  have N5 := Lib.hid (show aSn = 5 from hM.said.1.trans q5)
  have hl : aLn + aPn + aDn + aNn + aSn ≤ 100 := by omega
  clear hlen q1 q2 q3 q4 q5 hok rows
  go_wp2_with fail
  apply Calls.mono
  apply odd_c
  · apply Rdp.keep hrd; (exact kb_)
  · omega
  · exact h1
  · exact h2
  rintro E w2 ⟨b, rfl, hrd, hb⟩
  (have hst := xc hb; (try simp only [zA, zC, zD, zN] at hst); obtain ⟨hc, hf, hz⟩ := hst)
  cases b
  · go_wp2_with fail
    refine bodyPost_ret (v := .agg #[.slice aL aLn aLc, .slice aP aPn aPc, .slice aD aDn aDc, .int .i64 m.clock, .slice aN aNn aNc, .slice aS aSn aSc]) (by simp [results, Try.results42, go_sem, *]) rfl ?_
    exact ⟨_, _, _, _, _, _, _, _, _, _, _, _, _, _, _, m, rfl, (hM.keep kf_).less sz_, by omega, (Rdp.keep hrd (by (exact kb_))).more (by omega), ext_⟩
  · go_wp2_with fail
    apply Calls.mono
    apply (l21Bad_c (mk := m))
    · apply Rdp.keep hrd; (exact kb_)
    · exact (hM.keep kf_).less sz_
    · exact hl
    · exact N4.out
    · exact N5.out
    · omega
    rintro E w3 ⟨eL, eLc, eLn, eP, ePc, ePn, eD, eDc, eDn, eN, eNc, eNn, eS, eSc, eSn, x, rfl, hx, hxl, hrd, hb⟩
    (have hst := xc hb; (try simp only [zA, zC, zD, zN] at hst); obtain ⟨hc, hf, hz⟩ := hst)
    go_wp2_with fail
    refine bodyPost_ret (v := .agg #[.slice eL eLn eLc, .slice eP ePn ePc, .slice eD eDn eDc, .int .i64 x.clock, .slice eN eNn eNc, .slice eS eSn eSc]) (by simp [results, Try.results42, go_sem, *]) rfl ?_
    exact ⟨_, _, _, _, _, _, _, _, _, _, _, _, _, _, _, x, rfl, (hx.keep kf_).less sz_, hxl, (Rdp.keep hrd (by (exact kb_))).more (by omega), ext_⟩
theorem drawMktOk_c (A0 : Option Addr) (c0 n0 : Nat) (bs : List Int) (w : World) (hxs : RB w 0 A0 c0 n0 bs) (hq : ∀ x ∈ bs, 0 ≤ x ∧ x ≤ 255) : Calls Try.prog 25 #[.slice A0 n0 c0] w fun E w' => ∃ eL eLc eLn eP ePc ePn eD eDc eDn eN eNc eNn eS eSc eSn x, E = .returned (.agg #[.slice eL eLn eLc, .slice eP ePn ePc, .slice eD eDn eDc, .int .i64 x.clock, .slice eN eNn eNc, .slice eS eSn eSc]) ∧ (RM w' 0 eL eLc eLn eP ePc ePn eD eDc eDn eN eNc eNn eS eSc eSn x ∧ eLn + ePn + eDn + eNn + eSn ≤ 110) ∧ Ex w w' := by
  go_enter Try.func25, Try.ntmps25
  go_wp2_with fail
  apply Calls.mono
  apply l20Open_c
  · apply Rs.at0 hxs; (exact kf_)
  · exact hq
  rintro E w1 ⟨rb, rfl, hrd, hrb, hb⟩
  have hst := xr hb; (try simp only [zA, zC, zD, zN] at hst); obtain ⟨hc, hf, hz⟩ := hst
  have hlt := hrd.lt
  have hrb0 : w.heap.size + 1 ≤ rb := sz_
  go_wp2_with fail
  apply Calls.mono
  apply l21Any_c
  · apply Rdp.keep hrd; (exact kb_)
  · omega
  · omega
  · omega
  rintro E w3 ⟨eL, eLc, eLn, eP, ePc, ePn, eD, eDc, eDn, eN, eNc, eNn, eS, eSc, eSn, x, rfl, hx, hxl, hrd, hb⟩
  (have hst := xc hb; (try simp only [zA, zC, zD, zN] at hst); obtain ⟨hc, hf, hz⟩ := hst)
  go_wp2_with fail
  refine bodyPost_ret (v := .agg #[.slice eL eLn eLc, .slice eP ePn ePc, .slice eD eDn eDc, .int .i64 x.clock, .slice eN eNn eNc, .slice eS eSn eSc]) (by simp [results, Try.results25, go_sem, *]) rfl ?_
  exact ⟨_, _, _, _, _, _, _, _, _, _, _, _, _, _, _, x, rfl, ⟨(hx.keep kf_).less (Nat.zero_le _), hxl⟩, ext_⟩
theorem drawMktDo_c (A0 : Option Addr) (c0 n0 : Nat) (bs : List Int) (w : World) (hxs : RB w 0 A0 c0 n0 bs) (hq : ∀ x ∈ bs, 0 ≤ x ∧ x ≤ 255) : Calls Try.prog 30 #[.slice A0 n0 c0] w fun E w' => ∃ (eL : Option Addr) (eLc eLn : Nat) (eP : Option Addr) (ePc ePn : Nat) (eD : Option Addr) (eDc eDn : Nat) (eN : Option Addr) (eNc eNn : Nat) (eS : Option Addr) (eSc eSn : Nat) (x : Sw.Mkt) (y : Sw.Req), E = .returned (.tuple #[.agg #[.slice eL eLn eLc, .slice eP ePn ePc, .slice eD eDn eDc, .int .i64 x.clock, .slice eN eNn eNc, .slice eS eSn eSc], .agg #[.int .i64 y.user, .int .i64 y.n, .int .i64 y.kind, .int .i64 y.ticket, .int .i64 y.who, .int .i64 y.price]]) ∧ (RM w' 0 eL eLc eLn eP ePc ePn eD eDc eDn eN eNc eNn eS eSc eSn x ∧ eLn + ePn + eDn + eNn + eSn ≤ 110) ∧ Ex w w' := by
  go_enter Try.func30, Try.ntmps30
  go_wp2_with fail
  apply Calls.mono
  apply l20Open_c
  · apply Rs.at0 hxs; (exact kf_)
  · exact hq
  rintro E w1 ⟨rb, rfl, hrd, hrb, hb⟩
  have hRa1 : Lb w1 w.heap.size 6 := Lb.ex (Lb.alloc (Lb.new rfl rfl)) hb
  have hst := xr hb; (try simp only [zA, zC, zD, zN] at hst); obtain ⟨hc, hf, hz⟩ := hst
  have hlt := hrd.lt
  have hrb0 : w.heap.size + 2 ≤ rb := sz_
  go_wp2_with fail
  apply Calls.mono
  apply l21Market_c
  · apply Rdp.keep hrd; (exact kb_)
  · omega
  rintro E w2 ⟨aL, aLc, aLn, aP, aPc, aPn, aD, aDc, aDn, aN, aNc, aNn, aS, aSc, aSn, m, rfl, hM, hok, -, hrd, hb⟩
  (have hst := xc hb; (try simp only [zA, zC, zD, zN] at hst); obtain ⟨hc, hf, hz⟩ := hst)
  obtain ⟨rows, hok⟩ := Sw.mktOk_iff.1 hok
  have HO := Lib.hid hok
  have hlen := hM.len
  obtain ⟨q1, q2, q3, q4, q5⟩ := MOk_len hok
  simp only [Sw.Mkt.len] at hlen
  have N4 := Lib.hid (show aNn = 5 from hM.nums.1.trans q4)
  have N5 := Lib.hid (show aSn = 5 from hM.said.1.trans q5)
  have hl : aLn + aPn + aDn + aNn + aSn ≤ 100 := by omega
  clear hlen q1 q2 q3 q4 q5 hok
  go_wp2_with fail
  apply Calls.mono
  apply (l21AnyReq_c (m := m) (rows := rows))
  · apply Rdp.keep hrd; (exact kb_)
  · exact HO.out
  · exact (hM.keep kf_).less (by omega)
  · omega
  · omega
  · omega
  rintro E w3 ⟨p, q, r, s, t, u, rfl, hrd, hb⟩
  (have hst := xc hb; (try simp only [zA, zC, zD, zN] at hst); obtain ⟨hc, hf, hz⟩ := hst)
  go_wp2_with fail
  apply Calls.mono
  apply odd_c
  · apply Rdp.keep hrd; (exact kb_)
  · omega
  · omega
  · omega
  rintro E w4 ⟨b, rfl, hrd, hb⟩
  (have hst := xc hb; (try simp only [zA, zC, zD, zN] at hst); obtain ⟨hc, hf, hz⟩ := hst)
  cases b
  · go_wp2_with fail
    (refine wp_name ?_; intro W0 hb0; have hst := xr hb0; (try simp only [zA, zC, zD, zN] at hst); obtain ⟨hc0, hf0, hz0⟩ := hst)
    have K := (⟨by (go_simp; first | done | simp [*]), by (go_simp; first | done | simp [*]), by (go_simp; first | done | simp [*]), by (go_simp; first | done | simp [*]), by (go_simp; first | done | simp [*]), by (go_simp; first | done | simp [*]), by (go_simp; first | done | simp [*]), by (go_simp; first | done | simp [*]), by (go_simp; first | done | simp [*]), by (go_simp; first | done | simp [*]), by (go_simp; first | done | simp [*]), by (go_simp; first | done | simp [*])⟩ : W0.cell? ⟨w2.heap.size, 0, none⟩ = some (.slice aL aLn aLc) ∧ W0.cell? ⟨w2.heap.size, 1, none⟩ = some (.slice aP aPn aPc) ∧ W0.cell? ⟨w2.heap.size, 2, none⟩ = some (.slice aD aDn aDc) ∧ W0.cell? ⟨w2.heap.size, 3, none⟩ = some (.int .i64 m.clock) ∧ W0.cell? ⟨w2.heap.size, 4, none⟩ = some (.slice aN aNn aNc) ∧ W0.cell? ⟨w2.heap.size, 5, none⟩ = some (.slice aS aSn aSc) ∧ W0.cell? ⟨w3.heap.size, 0, none⟩ = some (.int .i64 p) ∧ W0.cell? ⟨w3.heap.size, 1, none⟩ = some (.int .i64 q) ∧ W0.cell? ⟨w3.heap.size, 2, none⟩ = some (.int .i64 r) ∧ W0.cell? ⟨w3.heap.size, 3, none⟩ = some (.int .i64 s) ∧ W0.cell? ⟨w3.heap.size, 4, none⟩ = some (.int .i64 t) ∧ W0.cell? ⟨w3.heap.size, 5, none⟩ = some (.int .i64 u))
    obtain ⟨k0, k1, k2, k3, k4, k5, j0, j1, j2, j3, j4, j5⟩ := K
    have hRa : Lb W0 w.heap.size 6 := (by (repeat (first | with_reducible assumption | with_reducible exact Lb.new (by first | rfl | (simp only [zA, zC, zD, zN]; done)) (by with_unfolding_all rfl) | with_reducible apply Lb.alloc | with_reducible apply Lb.set | with_reducible apply Lb.drew | (with_reducible refine Lb.ex ?_ (by assumption)) | (refine Lb.chk (S := fun k => k = rb) (by with_reducible assumption) ?_ (by show ¬ _ = rb; omega)))))
    have hRb : Lb W0 (w.heap.size + 1) 6 := (by (repeat (first | with_reducible assumption | with_reducible exact Lb.new (by first | rfl | (simp only [zA, zC, zD, zN]; done)) (by with_unfolding_all rfl) | with_reducible apply Lb.alloc | with_reducible apply Lb.set | with_reducible apply Lb.drew | (with_reducible refine Lb.ex ?_ (by assumption)) | (refine Lb.chk (S := fun k => k = rb) (by with_reducible assumption) ?_ (by show ¬ _ = rb; omega)))))
    have hres : RM W0 (w.heap.size + 2) aL aLc aLn aP aPc aPn aD aDc aDn aN aNc aNn aS aSc aSn m := (hM.keep kf_).less sz_
    have HEX : ExH w W0 := ⟨ext_⟩
    have hz1 : w.heap.size + 1 < W0.heap.size := sz_
    have hz2 : w2.heap.size < W0.heap.size := sz_
    have hz3 : w3.heap.size < W0.heap.size := sz_
    have n1 : ¬ w.heap.size = w2.heap.size := by first | omega | exact Nat.ne_of_lt sz_
    have n2 : ¬ w.heap.size = w3.heap.size := by first | omega | exact Nat.ne_of_lt sz_
    have n3 : ¬ w.heap.size + 1 = w2.heap.size := by first | omega | exact Nat.ne_of_lt sz_
    have n4 : ¬ w.heap.size + 1 = w3.heap.size := by first | omega | exact Nat.ne_of_lt sz_
    clear hb hc hf hz hb0 hc0 hf0 hz0 hrd
    ((repeat (rename Ch _ _ _ => zz; clear zz)); (repeat (rename Rdp _ _ _ => zz; clear zz)); (repeat (rename (∀ (b o : Nat), ¬ ((⟨b, 0, none⟩ : Addr) = ⟨b - _ + _, 0, none⟩) → _) => zz; clear zz)))
    have hb := HEX.out
    obtain ⟨ra0, hra0⟩ := hRa.at_ (i := 0) (by omega)
    obtain ⟨ra1, hra1⟩ := hRa.at_ (i := 1) (by omega)
    obtain ⟨ra2, hra2⟩ := hRa.at_ (i := 2) (by omega)
    obtain ⟨ra3, hra3⟩ := hRa.at_ (i := 3) (by omega)
    obtain ⟨ra4, hra4⟩ := hRa.at_ (i := 4) (by omega)
    obtain ⟨ra5, hra5⟩ := hRa.at_ (i := 5) (by omega)
    obtain ⟨rb0, hrb0'⟩ := hRb.at_ (i := 0) (by omega)
    obtain ⟨rb1, hrb1⟩ := hRb.at_ (i := 1) (by omega)
    obtain ⟨rb2, hrb2⟩ := hRb.at_ (i := 2) (by omega)
    obtain ⟨rb3, hrb3⟩ := hRb.at_ (i := 3) (by omega)
    obtain ⟨rb4, hrb4⟩ := hRb.at_ (i := 4) (by omega)
    obtain ⟨rb5, hrb5⟩ := hRb.at_ (i := 5) (by omega)
    have haf := hRa.rules.2
    have hbf := hRb.rules.2
    go_region_held3 (fun w' => w'.cell? ⟨w2.heap.size, 0, none⟩ = some (.slice aL aLn aLc) ∧ w'.cell? ⟨w2.heap.size, 1, none⟩ = some (.slice aP aPn aPc) ∧ w'.cell? ⟨w2.heap.size, 2, none⟩ = some (.slice aD aDn aDc) ∧ w'.cell? ⟨w2.heap.size, 3, none⟩ = some (.int .i64 m.clock) ∧ w'.cell? ⟨w2.heap.size, 4, none⟩ = some (.slice aN aNn aNc) ∧ w'.cell? ⟨w2.heap.size, 5, none⟩ = some (.slice aS aSn aSc) ∧ w'.cell? ⟨w3.heap.size, 0, none⟩ = some (.int .i64 p) ∧ w'.cell? ⟨w3.heap.size, 1, none⟩ = some (.int .i64 q) ∧ w'.cell? ⟨w3.heap.size, 2, none⟩ = some (.int .i64 r) ∧ w'.cell? ⟨w3.heap.size, 3, none⟩ = some (.int .i64 s) ∧ w'.cell? ⟨w3.heap.size, 4, none⟩ = some (.int .i64 t) ∧ w'.cell? ⟨w3.heap.size, 5, none⟩ = some (.int .i64 u)) (go_keep) (fail)
    all_goals go_wp2_with fail
    all_goals refine bodyPost_ret (v := .tuple #[.agg #[.slice aL aLn aLc, .slice aP aPn aPc, .slice aD aDn aDc, .int .i64 m.clock, .slice aN aNn aNc, .slice aS aSn aSc], .agg #[.int .i64 p, .int .i64 q, .int .i64 r, .int .i64 s, .int .i64 t, .int .i64 u]]) (by simp [results, Try.results30, go_sem, *]) rfl ?_
    all_goals exact ⟨_, _, _, _, _, _, _, _, _, _, _, _, _, _, _, m, ⟨p, q, r, s, t, u⟩, rfl, ⟨(hres.keep kf_).less (Nat.zero_le _), by omega⟩, ext_⟩
  · go_wp2_with fail
    apply Calls.mono
    apply (l21Bad_c (mk := m))
    · apply Rdp.keep hrd; (exact kb_)
    · exact (hM.keep kf_).less sz_
    · exact hl
    · exact N4.out
    · exact N5.out
    · omega
    rintro E w5 ⟨eL, eLc, eLn, eP, ePc, ePn, eD, eDc, eDn, eN, eNc, eNn, eS, eSc, eSn, x, rfl, hx, hxl, hrd, hb⟩
    (have hst := xc hb; (try simp only [zA, zC, zD, zN] at hst); obtain ⟨hc, hf, hz⟩ := hst)
    go_wp2_with fail
    (refine wp_name ?_; intro W0 hb0; have hst := xr hb0; (try simp only [zA, zC, zD, zN] at hst); obtain ⟨hc0, hf0, hz0⟩ := hst)
    have K := (⟨by (go_simp; first | done | simp [*]), by (go_simp; first | done | simp [*]), by (go_simp; first | done | simp [*]), by (go_simp; first | done | simp [*]), by (go_simp; first | done | simp [*]), by (go_simp; first | done | simp [*]), by (go_simp; first | done | simp [*]), by (go_simp; first | done | simp [*]), by (go_simp; first | done | simp [*]), by (go_simp; first | done | simp [*]), by (go_simp; first | done | simp [*]), by (go_simp; first | done | simp [*])⟩ : W0.cell? ⟨w2.heap.size, 0, none⟩ = some (.slice eL eLn eLc) ∧ W0.cell? ⟨w2.heap.size, 1, none⟩ = some (.slice eP ePn ePc) ∧ W0.cell? ⟨w2.heap.size, 2, none⟩ = some (.slice eD eDn eDc) ∧ W0.cell? ⟨w2.heap.size, 3, none⟩ = some (.int .i64 x.clock) ∧ W0.cell? ⟨w2.heap.size, 4, none⟩ = some (.slice eN eNn eNc) ∧ W0.cell? ⟨w2.heap.size, 5, none⟩ = some (.slice eS eSn eSc) ∧ W0.cell? ⟨w3.heap.size, 0, none⟩ = some (.int .i64 p) ∧ W0.cell? ⟨w3.heap.size, 1, none⟩ = some (.int .i64 q) ∧ W0.cell? ⟨w3.heap.size, 2, none⟩ = some (.int .i64 r) ∧ W0.cell? ⟨w3.heap.size, 3, none⟩ = some (.int .i64 s) ∧ W0.cell? ⟨w3.heap.size, 4, none⟩ = some (.int .i64 t) ∧ W0.cell? ⟨w3.heap.size, 5, none⟩ = some (.int .i64 u))
    obtain ⟨k0, k1, k2, k3, k4, k5, j0, j1, j2, j3, j4, j5⟩ := K
    have hRa : Lb W0 w.heap.size 6 := (by (repeat (first | with_reducible assumption | with_reducible exact Lb.new (by first | rfl | (simp only [zA, zC, zD, zN]; done)) (by with_unfolding_all rfl) | with_reducible apply Lb.alloc | with_reducible apply Lb.set | with_reducible apply Lb.drew | (with_reducible refine Lb.ex ?_ (by assumption)) | (refine Lb.chk (S := fun k => k = rb) (by with_reducible assumption) ?_ (by show ¬ _ = rb; omega)))))
    have hRb : Lb W0 (w.heap.size + 1) 6 := (by (repeat (first | with_reducible assumption | with_reducible exact Lb.new (by first | rfl | (simp only [zA, zC, zD, zN]; done)) (by with_unfolding_all rfl) | with_reducible apply Lb.alloc | with_reducible apply Lb.set | with_reducible apply Lb.drew | (with_reducible refine Lb.ex ?_ (by assumption)) | (refine Lb.chk (S := fun k => k = rb) (by with_reducible assumption) ?_ (by show ¬ _ = rb; omega)))))
    have hres : RM W0 (w.heap.size + 2) eL eLc eLn eP ePc ePn eD eDc eDn eN eNc eNn eS eSc eSn x := (hx.keep kf_).less sz_
    have HEX : ExH w W0 := ⟨ext_⟩
    have hz1 : w.heap.size + 1 < W0.heap.size := sz_
    have hz2 : w2.heap.size < W0.heap.size := sz_
    have hz3 : w3.heap.size < W0.heap.size := sz_
    have n1 : ¬ w.heap.size = w2.heap.size := by first | omega | exact Nat.ne_of_lt sz_
    have n2 : ¬ w.heap.size = w3.heap.size := by first | omega | exact Nat.ne_of_lt sz_
    have n3 : ¬ w.heap.size + 1 = w2.heap.size := by first | omega | exact Nat.ne_of_lt sz_
    have n4 : ¬ w.heap.size + 1 = w3.heap.size := by first | omega | exact Nat.ne_of_lt sz_
    clear hb hc hf hz hb0 hc0 hf0 hz0 hrd
    ((repeat (rename Ch _ _ _ => zz; clear zz)); (repeat (rename Rdp _ _ _ => zz; clear zz)); (repeat (rename (∀ (b o : Nat), ¬ ((⟨b, 0, none⟩ : Addr) = ⟨b - _ + _, 0, none⟩) → _) => zz; clear zz)))
    have hb := HEX.out
    obtain ⟨ra0, hra0⟩ := hRa.at_ (i := 0) (by omega)
    obtain ⟨ra1, hra1⟩ := hRa.at_ (i := 1) (by omega)
    obtain ⟨ra2, hra2⟩ := hRa.at_ (i := 2) (by omega)
    obtain ⟨ra3, hra3⟩ := hRa.at_ (i := 3) (by omega)
    obtain ⟨ra4, hra4⟩ := hRa.at_ (i := 4) (by omega)
    obtain ⟨ra5, hra5⟩ := hRa.at_ (i := 5) (by omega)
    obtain ⟨rb0, hrb0'⟩ := hRb.at_ (i := 0) (by omega)
    obtain ⟨rb1, hrb1⟩ := hRb.at_ (i := 1) (by omega)
    obtain ⟨rb2, hrb2⟩ := hRb.at_ (i := 2) (by omega)
    obtain ⟨rb3, hrb3⟩ := hRb.at_ (i := 3) (by omega)
    obtain ⟨rb4, hrb4⟩ := hRb.at_ (i := 4) (by omega)
    obtain ⟨rb5, hrb5⟩ := hRb.at_ (i := 5) (by omega)
    have haf := hRa.rules.2
    have hbf := hRb.rules.2
    go_region_held3 (fun w' => w'.cell? ⟨w2.heap.size, 0, none⟩ = some (.slice eL eLn eLc) ∧ w'.cell? ⟨w2.heap.size, 1, none⟩ = some (.slice eP ePn ePc) ∧ w'.cell? ⟨w2.heap.size, 2, none⟩ = some (.slice eD eDn eDc) ∧ w'.cell? ⟨w2.heap.size, 3, none⟩ = some (.int .i64 x.clock) ∧ w'.cell? ⟨w2.heap.size, 4, none⟩ = some (.slice eN eNn eNc) ∧ w'.cell? ⟨w2.heap.size, 5, none⟩ = some (.slice eS eSn eSc) ∧ w'.cell? ⟨w3.heap.size, 0, none⟩ = some (.int .i64 p) ∧ w'.cell? ⟨w3.heap.size, 1, none⟩ = some (.int .i64 q) ∧ w'.cell? ⟨w3.heap.size, 2, none⟩ = some (.int .i64 r) ∧ w'.cell? ⟨w3.heap.size, 3, none⟩ = some (.int .i64 s) ∧ w'.cell? ⟨w3.heap.size, 4, none⟩ = some (.int .i64 t) ∧ w'.cell? ⟨w3.heap.size, 5, none⟩ = some (.int .i64 u)) (go_keep) (fail)
    all_goals go_wp2_with fail
    all_goals refine bodyPost_ret (v := .tuple #[.agg #[.slice eL eLn eLc, .slice eP ePn ePc, .slice eD eDn eDc, .int .i64 x.clock, .slice eN eNn eNc, .slice eS eSn eSc], .agg #[.int .i64 p, .int .i64 q, .int .i64 r, .int .i64 s, .int .i64 t, .int .i64 u]]) (by simp [results, Try.results30, go_sem, *]) rfl ?_
    all_goals exact ⟨_, _, _, _, _, _, _, _, _, _, _, _, _, _, _, x, ⟨p, q, r, s, t, u⟩, rfl, ⟨(hres.keep kf_).less (Nat.zero_le _), hxl⟩, ext_⟩
theorem drawMktTick_c (A0 : Option Addr) (c0 n0 : Nat) (bs : List Int) (w : World) (hxs : RB w 0 A0 c0 n0 bs) (hq : ∀ x ∈ bs, 0 ≤ x ∧ x ≤ 255) : Calls Try.prog 15 #[.slice A0 n0 c0] w fun E w' => ∃ eL eLc eLn eP ePc ePn eD eDc eDn eN eNc eNn eS eSc eSn x, E = .returned (.agg #[.slice eL eLn eLc, .slice eP ePn ePc, .slice eD eDn eDc, .int .i64 x.clock, .slice eN eNn eNc, .slice eS eSn eSc]) ∧ (RM w' 0 eL eLc eLn eP ePc ePn eD eDc eDn eN eNc eNn eS eSc eSn x ∧ eLn + ePn + eDn + eNn + eSn ≤ 110) ∧ Ex w w' := by
  go_enter Try.func15, Try.ntmps15
  go_wp2_with fail
  apply Calls.mono
  apply l20Open_c
  · apply Rs.at0 hxs; (exact kf_)
  · exact hq
  rintro E w1 ⟨rb, rfl, hrd, hrb, hb⟩
  have hst := xr hb; (try simp only [zA, zC, zD, zN] at hst); obtain ⟨hc, hf, hz⟩ := hst
  have hlt := hrd.lt
  have hrb0 : w.heap.size + 1 ≤ rb := sz_
  go_wp2_with fail
  apply Calls.mono
  apply l21Any_c
  · apply Rdp.keep hrd; (exact kb_)
  · omega
  · omega
  · omega
  rintro E w3 ⟨eL, eLc, eLn, eP, ePc, ePn, eD, eDc, eDn, eN, eNc, eNn, eS, eSc, eSn, x, rfl, hx, hxl, hrd, hb⟩
  (have hst := xc hb; (try simp only [zA, zC, zD, zN] at hst); obtain ⟨hc, hf, hz⟩ := hst)
  go_wp2_with fail
  apply Calls.mono
  apply odd_c
  · apply Rdp.keep hrd; (exact kb_)
  · omega
  · omega
  · omega
  rintro E w4 ⟨b, rfl, hrd, hb⟩
  (have hst := xc hb; (try simp only [zA, zC, zD, zN] at hst); obtain ⟨hc, hf, hz⟩ := hst)
  cases b
  · go_wp2_with fail
    refine bodyPost_ret (v := .agg #[.slice eL eLn eLc, .slice eP ePn ePc, .slice eD eDn eDc, .int .i64 x.clock, .slice eN eNn eNc, .slice eS eSn eSc]) (by simp [results, Try.results15, go_sem, *]) rfl ?_
    exact ⟨_, _, _, _, _, _, _, _, _, _, _, _, _, _, _, x, rfl, ⟨(hx.keep kf_).less (Nat.zero_le _), hxl⟩, ext_⟩
  · go_wp2_with fail
    refine bodyPost_ret (v := .agg #[.slice eL eLn eLc, .slice eP ePn ePc, .slice eD eDn eDc, .int .i64 99999, .slice eN eNn eNc, .slice eS eSn eSc]) (by simp [results, Try.results15, go_sem, *]) rfl ?_
    exact ⟨_, _, _, _, _, _, _, _, _, _, _, _, _, _, _, ⟨x.log, x.purses, x.deals, 99999, x.nums, x.said⟩, rfl, ⟨⟨(hx.log.keep kf_).less (Nat.zero_le _), (hx.purses.keep kf_).less (Nat.zero_le _), (hx.deals.keep kf_).less (Nat.zero_le _), (hx.nums.keep kf_).less (Nat.zero_le _), (hx.said.keep kf_).less (Nat.zero_le _)⟩, hxl⟩, ext_⟩
end Go.Proofs.Ytimpagcanengoaa

namespace Go.Proofs.Ytimpagcanengoaa
set_option maxRecDepth 100000
set_option linter.unusedSimpArgs false
set_option linter.unusedVariables false
open Go.RowKit Go
set_option maxHeartbeats 400000

theorem swInts_c (A : Option Addr) (c n : Nat) (xs : List Int) (B : Option Addr) (d m : Nat) (ys : List Int) (w : World) (hxs : RI w 0 A c n xs) (hys : RI w 0 B d m ys) : Calls Try.prog 33 #[.slice A n c, .slice B m d] w fun E w' => E = .returned (.bool (decide (xs = ys))) ∧ Ex w w' := by
  have hl := Lib.hid hxs.1
  have hl' := Lib.hid hys.1
  have hbig : n ≤ 9223372036854775807 := by have := hxs.2.le; have := hxs.2.cap; unfold maxLen at this; omega
  by_cases hnm : n = m
  case neg =>
    have hb : ((n : Int) == m) = false := by simp; omega
    have e : decide (xs = ys) = false := by
      rw [decide_eq_false_iff_not]; rintro rfl
      have := hl.out; have := hl'.out; omega
    rw [e]; clear e
    go_enter Try.func33, Try.ntmps33
    go_wp2_with fail
    go_ret
    exact ⟨rfl, ext_⟩
  subst hnm
  go_enter Try.func33, Try.ntmps33
  go_wp2_with fail
  go_loopw [5] (fun i wr => ∃ k : Nat, k ≤ n ∧ i = .int .i64 k ∧ Ex w wr ∧ decide (xs = ys) = decide (xs.drop k = ys.drop k)) (fun i _ => n - (intOf i).toNat)
  case atStart => exact ⟨0, Nat.zero_le _, rfl, Ch.refl _ _, rfl⟩
  case round =>
    obtain ⟨k, hk, rfl, hb2, hrel⟩ := hrel
    have hst := Ex.rules hb2 rfl
    obtain ⟨hc2, hf2, hz2⟩ := hst
    by_cases hlt : k < n
    · obtain ⟨g, off, y, rfl, hg0, hg, hd, hy, hcy⟩ := at_I hxs hlt
      obtain ⟨g', off', z, rfl, hg0', hg', hd', hz', hcz⟩ := at_I hys hlt
      have t1 : (0 : Int) ≤ (k : Int) := by omega
      have t2 : (k : Int) < (n : Int) := by omega
      rw [hd, hd'] at hrel
      have Hrel := Lib.hid hrel
      clear hrel hd hd' hy hz'
      by_cases hyz : y = z
      · subst hyz
        go_wp2_with fail
        go_quiet ((first | fail))
        go_wp2
        go_roundw
        case rel => exact ⟨k + 1, by omega, by go_num, ext_, by rw [Hrel.out]; simp⟩
        case measure => simp [intOf]; omega
      · go_wp2_with fail
        go_quiet ((first | fail))
        go_wp2
        go_ret
        exact ⟨ret_b (by rw [Hrel.out]; simp [hyz]), ext_⟩
    · have Hrel := Lib.hid hrel; clear hrel
      go_wp2_with fail
      go_ret
      refine ⟨ret_b ?_, ext_⟩
      rw [Hrel.out, List.drop_of_length_le (by have := hl.out; omega), List.drop_of_length_le (by have := hl'.out; omega)]
      simp


theorem swOk_c (w : World) : Calls Try.prog 22 #[] w fun E w' => E = .returned (.bool true) ∧ w = w' := by
  have h1 : Sw.mixOk 1 = true := rfl
  go_enter Try.func22, Try.ntmps22
  go_wp2_with (first | (go_at_call 55; refine (iMixOk_c _ _).mono ?_; rintro E w' ⟨rfl, rfl⟩))
  go_ret
  exact ⟨ret_b (by simp [h1]), rfl⟩

end Go.Proofs.Ytimpagcanengoaa

namespace Go.Proofs.Ytimpagcanengoaa
set_option maxRecDepth 100000
set_option linter.unusedSimpArgs false
set_option linter.unusedVariables false
open Go.RowKit Go
set_option maxHeartbeats 1000000

theorem ent_dec (y z : Sw.Ent) : decide (y = z) = decide (y.kind = z.kind ∧ y.ticket = z.ticket ∧ y.who = z.who ∧ y.price = z.price) := by rw [decide_eq_decide]; cases y; cases z; simp
theorem deal_dec (y z : Sw.Deal) : decide (y = z) = decide (y.ticket = z.ticket ∧ y.seller = z.seller ∧ y.price = z.price ∧ y.buyer = z.buyer ∧ y.due = z.due) := by rw [decide_eq_decide]; cases y; cases z; simp
theorem req_dec (y z : Sw.Req) : decide (y = z) = decide (y.user = z.user ∧ y.n = z.n ∧ y.kind = z.kind ∧ y.ticket = z.ticket ∧ y.who = z.who ∧ y.price = z.price) := by rw [decide_eq_decide]; cases y; cases z; simp
theorem swEntries_c (A : Option Addr) (c n : Nat) (xs : List Sw.Ent) (B : Option Addr) (d m : Nat) (ys : List Sw.Ent) (w : World) (hxs : RE w 0 A c n xs) (hys : RE w 0 B d m ys) : Calls Try.prog 24 #[.slice A n c, .slice B m d] w fun E w' => E = .returned (.bool (decide (xs = ys))) ∧ Ex w w' := by

  have hl := Lib.hid hxs.1
  have hl' := Lib.hid hys.1
  have hbig := Rs.big hxs
  by_cases hnm : n = m
  case neg =>
    have hb : ((n : Int) == m) = false := by simp; omega
    have e : decide (xs = ys) = false := by
      rw [decide_eq_false_iff_not]; rintro rfl
      have := hl.out; have := hl'.out; omega
    rw [e]; clear e
    go_enter Try.func24, Try.ntmps24
    go_wp2_with fail
    go_ret
    exact ⟨rfl, (by exact ext_)⟩
  subst hnm
  go_enter Try.func24, Try.ntmps24
  go_wp2_with fail
  go_loopw [5] (fun i wr => ∃ k : Nat, k ≤ n ∧ i = .int .i64 k ∧ Ex w wr ∧ decide (xs = ys) = decide (xs.drop k = ys.drop k)) (fun i _ => n - (intOf i).toNat)
  case atStart => exact ⟨0, Nat.zero_le _, rfl, Ch.refl _ _, rfl⟩
  case round =>
    obtain ⟨k, hk, rfl, hb2, hrel⟩ := hrel
    have hst := Ex.rules hb2 rfl
    obtain ⟨hc2, hf2, hz2⟩ := hst
    by_cases hlt : k < n
    · obtain ⟨g, off, y, rfl, hg0, hg, hd, hy, hca0, hca1, hca2, hca3⟩ := at_E hxs hlt
      obtain ⟨g', off', z, rfl, hg0', hg', hd', hz', hcb0, hcb1, hcb2, hcb3⟩ := at_E hys hlt
      have t1 : (0 : Int) ≤ (k : Int) := by omega
      have t2 : (k : Int) < (n : Int) := by omega
      rw [hd, hd'] at hrel
      have Hrel := Lib.hid hrel
      clear hrel hd hd' hy hz'
      cases hyz : decide (y = z) with
      | true =>
        go_wp2_with fail
        (first | (obtain rfl := of_decide_eq_true hyz; go_quiet ((first | fail))) | (have hn := of_decide_eq_false hyz; by_cases a1 : y.kind = z.kind; all_goals (by_cases a2 : y.ticket = z.ticket); all_goals (by_cases a3 : y.who = z.who); all_goals (by_cases a4 : y.price = z.price); all_goals (try (exfalso; apply hn; cases y; cases z; simp_all; done)); all_goals go_quiet ((first | fail))))
        all_goals go_wp2
        all_goals go_roundw
        case rel => exact ⟨k + 1, by omega, by go_num, (by exact ext_), by rw [Hrel.out]; simp [of_decide_eq_true hyz]⟩
        case measure => simp [intOf]; omega
      | false =>
        go_wp2_with fail
        (first | (obtain rfl := of_decide_eq_true hyz; go_quiet ((first | fail))) | (have hn := of_decide_eq_false hyz; by_cases a1 : y.kind = z.kind; all_goals (by_cases a2 : y.ticket = z.ticket); all_goals (by_cases a3 : y.who = z.who); all_goals (by_cases a4 : y.price = z.price); all_goals (try (exfalso; apply hn; cases y; cases z; simp_all; done)); all_goals go_quiet ((first | fail))))
        all_goals go_wp2
        all_goals go_ret
        all_goals exact ⟨ret_b (by rw [Hrel.out]; simp [of_decide_eq_false hyz]), (by exact ext_)⟩
    · have Hrel := Lib.hid hrel; clear hrel
      go_wp2_with fail
      go_ret
      refine ⟨ret_b ?_, (by exact ext_)⟩
      rw [Hrel.out, List.drop_of_length_le (by have := hl.out; omega), List.drop_of_length_le (by have := hl'.out; omega)]
      simp

theorem swDeals_c (A : Option Addr) (c n : Nat) (xs : List Sw.Deal) (B : Option Addr) (d m : Nat) (ys : List Sw.Deal) (w : World) (hxs : RDl w 0 A c n xs) (hys : RDl w 0 B d m ys) : Calls Try.prog 34 #[.slice A n c, .slice B m d] w fun E w' => E = .returned (.bool (decide (xs = ys))) ∧ Ex w w' := by

  have hl := Lib.hid hxs.1
  have hl' := Lib.hid hys.1
  have hbig := Rs.big hxs
  by_cases hnm : n = m
  case neg =>
    have hb : ((n : Int) == m) = false := by simp; omega
    have e : decide (xs = ys) = false := by
      rw [decide_eq_false_iff_not]; rintro rfl
      have := hl.out; have := hl'.out; omega
    rw [e]; clear e
    go_enter Try.func34, Try.ntmps34
    go_wp2_with fail
    go_ret
    exact ⟨rfl, (by exact ext_)⟩
  subst hnm
  go_enter Try.func34, Try.ntmps34
  go_wp2_with fail
  go_loopw [5] (fun i wr => ∃ k : Nat, k ≤ n ∧ i = .int .i64 k ∧ Ex w wr ∧ decide (xs = ys) = decide (xs.drop k = ys.drop k)) (fun i _ => n - (intOf i).toNat)
  case atStart => exact ⟨0, Nat.zero_le _, rfl, Ch.refl _ _, rfl⟩
  case round =>
    obtain ⟨k, hk, rfl, hb2, hrel⟩ := hrel
    have hst := Ex.rules hb2 rfl
    obtain ⟨hc2, hf2, hz2⟩ := hst
    by_cases hlt : k < n
    · obtain ⟨g, off, y, rfl, hg0, hg, hd, hy, hca0, hca1, hca2, hca3, hca4⟩ := at_D hxs hlt
      obtain ⟨g', off', z, rfl, hg0', hg', hd', hz', hcb0, hcb1, hcb2, hcb3, hcb4⟩ := at_D hys hlt
      have t1 : (0 : Int) ≤ (k : Int) := by omega
      have t2 : (k : Int) < (n : Int) := by omega
      rw [hd, hd'] at hrel
      have Hrel := Lib.hid hrel
      clear hrel hd hd' hy hz'
      cases hyz : decide (y = z) with
      | true =>
        go_wp2_with fail
        (first | (obtain rfl := of_decide_eq_true hyz; go_quiet ((first | fail))) | (have hn := of_decide_eq_false hyz; by_cases a1 : y.ticket = z.ticket; all_goals (by_cases a2 : y.seller = z.seller); all_goals (by_cases a3 : y.price = z.price); all_goals (by_cases a4 : y.buyer = z.buyer); all_goals (by_cases a5 : y.due = z.due); all_goals (try (exfalso; apply hn; cases y; cases z; simp_all; done)); all_goals go_quiet ((first | fail))))
        all_goals go_wp2
        all_goals go_roundw
        case rel => exact ⟨k + 1, by omega, by go_num, (by exact ext_), by rw [Hrel.out]; simp [of_decide_eq_true hyz]⟩
        case measure => simp [intOf]; omega
      | false =>
        go_wp2_with fail
        (first | (obtain rfl := of_decide_eq_true hyz; go_quiet ((first | fail))) | (have hn := of_decide_eq_false hyz; by_cases a1 : y.ticket = z.ticket; all_goals (by_cases a2 : y.seller = z.seller); all_goals (by_cases a3 : y.price = z.price); all_goals (by_cases a4 : y.buyer = z.buyer); all_goals (by_cases a5 : y.due = z.due); all_goals (try (exfalso; apply hn; cases y; cases z; simp_all; done)); all_goals go_quiet ((first | fail))))
        all_goals go_wp2
        all_goals go_ret
        all_goals exact ⟨ret_b (by rw [Hrel.out]; simp [of_decide_eq_false hyz]), (by exact ext_)⟩
    · have Hrel := Lib.hid hrel; clear hrel
      go_wp2_with fail
      go_ret
      refine ⟨ret_b ?_, (by exact ext_)⟩
      rw [Hrel.out, List.drop_of_length_le (by have := hl.out; omega), List.drop_of_length_le (by have := hl'.out; omega)]
      simp

theorem swMarket_c (aL : Option Addr) (aLc aLn : Nat) (aP : Option Addr) (aPc aPn : Nat) (aD : Option Addr) (aDc aDn : Nat) (aN : Option Addr) (aNc aNn : Nat) (aS : Option Addr) (aSc aSn : Nat) (x : Sw.Mkt) (bL : Option Addr) (bLc bLn : Nat) (bP : Option Addr) (bPc bPn : Nat) (bD : Option Addr) (bDc bDn : Nat) (bN : Option Addr) (bNc bNn : Nat) (bS : Option Addr) (bSc bSn : Nat) (y : Sw.Mkt) (w : World) (hx : RM w 0 aL aLc aLn aP aPc aPn aD aDc aDn aN aNc aNn aS aSc aSn x) (hy : RM w 0 bL bLc bLn bP bPc bPn bD bDc bDn bN bNc bNn bS bSc bSn y) : Calls Try.prog 18 #[.agg #[.slice aL aLn aLc, .slice aP aPn aPc, .slice aD aDn aDc, .int .i64 x.clock, .slice aN aNn aNc, .slice aS aSn aSc], .agg #[.slice bL bLn bLc, .slice bP bPn bPc, .slice bD bDn bDc, .int .i64 y.clock, .slice bN bNn bNc, .slice bS bSn bSc]] w fun E w' => E = .returned (.bool (decide (x = y))) ∧ Ex w w' := by
  obtain ⟨x1, x2, x3, x4, x5⟩ := hx
  obtain ⟨y1, y2, y3, y4, y5⟩ := hy
  go_enter Try.func18, Try.ntmps18
  go_wp2_with (first | (go_at_call 24; apply Calls.mono; apply swEntries_c; ((first | (apply Rs.at0; assumption) | (apply Ow.rs0; assumption)); exact kf_); ((first | (apply Rs.at0; assumption) | (apply Ow.rs0; assumption)); exact kf_); rintro E w1 ⟨rfl, hb⟩; have hst := xr hb; (try simp only [zA, zC, zD, zN] at hst); obtain ⟨hc, hf, hz⟩ := hst) | (go_at_call 33; apply Calls.mono; apply swInts_c; ((first | (apply Rs.at0; assumption) | (apply Ow.rs0; assumption)); exact kf_); ((first | (apply Rs.at0; assumption) | (apply Ow.rs0; assumption)); exact kf_); rintro E w1 ⟨rfl, hb⟩; have hst := xr hb; (try simp only [zA, zC, zD, zN] at hst); obtain ⟨hc, hf, hz⟩ := hst) | (go_at_call 34; apply Calls.mono; apply swDeals_c; ((first | (apply Rs.at0; assumption) | (apply Ow.rs0; assumption)); exact kf_); ((first | (apply Rs.at0; assumption) | (apply Ow.rs0; assumption)); exact kf_); rintro E w1 ⟨rfl, hb⟩; have hst := xr hb; (try simp only [zA, zC, zD, zN] at hst); obtain ⟨hc, hf, hz⟩ := hst))
  all_goals (go_ret; refine ⟨ret_b ?_, ext_⟩; go_tidy; simp only [mkt_ext])
  all_goals (first | (simp [*]; done) | (simp_all; done))
end Go.Proofs.Ytimpagcanengoaa

namespace Go.Proofs.Ytimpagcanengoaa
set_option maxRecDepth 100000
set_option linter.unusedSimpArgs false
set_option linter.unusedVariables false
open Go.RowKit Go
set_option maxHeartbeats 4000000

theorem sMktDo_c (aL : Option Addr) (aLc aLn : Nat) (aP : Option Addr) (aPc aPn : Nat) (aD : Option Addr) (aDc aDn : Nat) (aN : Option Addr) (aNc aNn : Nat) (aS : Option Addr) (aSc aSn : Nat) (m : Sw.Mkt) (r : Sw.Req) (w : World) (hm : RM w 0 aL aLc aLn aP aPc aPn aD aDc aDn aN aNc aNn aS aSc aSn m) (hn : aLn + aPn + aDn + aNn + aSn ≤ 1048576) : Calls Try.prog 31 #[.agg #[.slice aL aLn aLc, .slice aP aPn aPc, .slice aD aDn aDc, .int .i64 m.clock, .slice aN aNn aNc, .slice aS aSn aSc], .agg #[.int .i64 r.user, .int .i64 r.n, .int .i64 r.kind, .int .i64 r.ticket, .int .i64 r.who, .int .i64 r.price]] w fun E w' => ∃ bL bLc bLn bP bPc bPn bD bDc bDn bN bNc bNn bS bSc bSn τ, E = .returned (.tuple #[.agg #[.slice bL bLn bLc, .slice bP bPn bPc, .slice bD bDn bDc, .int .i64 (Sw.mktDo m r).1.clock, .slice bN bNn bNc, .slice bS bSn bSc], .int .i64 (Sw.mktDo m r).2]) ∧ OwM τ w' w.heap.size bL bLc bLn bP bPc bPn bD bDc bDn bN bNc bNn bS bSc bSn (Sw.mktDo m r).1 ∧ Ex w w' := by
  cases g1 : Sw.mktOk m
  case false =>
    have e : Sw.mktDo m r = (⟨[], [], [], 0, [], []⟩, 0) := by simp [Sw.mktDo, g1, Sw.mktZ]
    have He := Lib.hid e; clear e
    go_enter Try.func31, Try.ntmps31
    go_wp2_with (first | (go_at_call 21; apply Calls.mono; apply sMktOk_c; ((first | (apply RM.at0; assumption) | (apply OwM.rm0; assumption)); exact kf_); rintro E w1 ⟨rfl, hb⟩; have hst := xr hb; (try simp only [zA, zC, zD, zN] at hst); obtain ⟨hc, hf, hz⟩ := hst))
    refine bodyPost_ret (v := .tuple #[.agg #[.slice none 0 0, .slice none 0 0, .slice none 0 0, .int .i64 0, .slice none 0 0, .slice none 0 0], .int .i64 0]) (by simp [results, Try.results31, go_sem, *]) rfl ?_
    refine ⟨_, _, _, _, _, _, _, _, _, _, _, _, _, _, _, fun _ => 0, by rw [He.out], ?_, ext_⟩
    rw [He.out]
    exact ⟨OwT.nil .., OwT.nil .., OwT.nil .., OwT.nil .., OwT.nil ..⟩
  cases g2 : Sw.reqOk r
  case false =>
    have e : Sw.mktDo m r = (⟨[], [], [], 0, [], []⟩, 0) := by simp [Sw.mktDo, g1, g2, Sw.mktZ]
    have He := Lib.hid e; clear e
    obtain ⟨ru, rn, rk, rt, rh, rp⟩ := r
    go_enter Try.func31, Try.ntmps31
    go_wp2_with (first | (go_at_call 21; apply Calls.mono; apply sMktOk_c; ((first | (apply RM.at0; assumption) | (apply OwM.rm0; assumption)); exact kf_); rintro E w1 ⟨rfl, hb⟩; have hst := xr hb; (try simp only [zA, zC, zD, zN] at hst); obtain ⟨hc, hf, hz⟩ := hst) | (go_at_call 35; apply Calls.mono; apply (sReqOk_c ⟨ru, rn, rk, rt, rh, rp⟩); rintro E w3 ⟨rfl, hb⟩; rw [g2]; have hst := xr hb; (try simp only [zA, zC, zD, zN] at hst); obtain ⟨hc, hf, hz⟩ := hst))
    refine bodyPost_ret (v := .tuple #[.agg #[.slice none 0 0, .slice none 0 0, .slice none 0 0, .int .i64 0, .slice none 0 0, .slice none 0 0], .int .i64 0]) (by simp [results, Try.results31, go_sem, *]) rfl ?_
    refine ⟨_, _, _, _, _, _, _, _, _, _, _, _, _, _, _, fun _ => 0, by rw [He.out], ?_, ext_⟩
    rw [He.out]
    exact ⟨OwT.nil .., OwT.nil .., OwT.nil .., OwT.nil .., OwT.nil ..⟩
  have hok := (Sw.mktOk_iff.1 g1)
  obtain ⟨rows, hok⟩ := hok
  have e : Sw.mktDo m r = Sw.doIt m r := by simp [Sw.mktDo, g1, g2]
  have He := Lib.hid e; clear e
  have HK := Lib.hid hok
  have HR := Lib.hid g2
  clear hok
  obtain ⟨ru, rn, rk, rt, rh, rp⟩ := r
  obtain ⟨x, hx⟩ : ∃ x, x = Sw.doIt m ⟨ru, rn, rk, rt, rh, rp⟩ := ⟨_, rfl⟩
  have Hx := Lib.hid hx
  clear hx
  go_enter Try.func31, Try.ntmps31
  go_wp2_with (first | (go_at_call 21; apply Calls.mono; apply sMktOk_c; ((first | (apply RM.at0; assumption) | (apply OwM.rm0; assumption)); exact kf_); rintro E w1 ⟨rfl, hb⟩; have hst := xr hb; (try simp only [zA, zC, zD, zN] at hst); obtain ⟨hc, hf, hz⟩ := hst) | (go_at_call 35; apply Calls.mono; apply (sReqOk_c ⟨ru, rn, rk, rt, rh, rp⟩); rintro E w3 ⟨rfl, hb⟩; rw [g2]; have hst := xr hb; (try simp only [zA, zC, zD, zN] at hst); obtain ⟨hc, hf, hz⟩ := hst))
  have hz3 : w.heap.size + 3 ≤ w3.heap.size := sz_
  have hw3 : Ex w w3 := ext_
  have rc : ∀ i : Nat, i < 6 → w3.cell? ⟨w.heap.size + 1 + 1, i, none⟩ = w3.cell? ⟨w.heap.size + 1 + 1, i, none⟩ := fun _ _ => rfl
  clear rc
  (refine wp_name ?_; intro W0 hb0; have hst := xr hb0; (try simp only [zA, zC, zD, zN] at hst); obtain ⟨hc0, hf0, hz0⟩ := hst)
  go_region_with ((first | (go_at_call 46; apply Calls.mono; apply sMktCopy_c; (apply RM.at0 hm; (exact kf_)); exact hn; rintro E w5 ⟨bL, bLc, bLn, bP, bPc, bPn, bD, bDc, bDn, bN, bNc, bNn, bS, bSc, bSn, τ5, rfl, ho5, hb5⟩; have hst := xr hb5; (try simp only [zA, zC, zD, zN] at hst); obtain ⟨hc5, hf5, hz5⟩ := hst) | (go_at_call 67; apply Calls.mono; apply (sDo_c (m := m) (r := ⟨ru, rn, rk, rt, rh, rp⟩) (rows := rows) (τ := τ5)); (exact ho5); (exact HK.out); (exact HR.out); (exact sz_); rintro E w6 ⟨fL, fLc, fLn, fP, fPc, fPn, fD, fDc, fDn, fN, fNc, fNn, fS, fSc, fSn, τ6, rfl, ho6, hτ6, hb6⟩; rw [← Hx.out] at ho6; rw [← Hx.out]; have hr1 := (fun i : Nat => hb6.cell (p := ⟨w.heap.size + 1 + 1, i, none⟩) sz_ (fun h => (by have h1 := h.1; simp only [zA, zD] at h1; omega))); have hr2 := (fun i : Nat => hb6.frozen (p := ⟨w.heap.size + 1 + 1, i, none⟩) sz_ (fun h => (by have h1 := h.1; simp only [zA, zD] at h1; omega))))))
  all_goals
    have hex : Ex w w6 := Ch.trans' (show Ex w w5 from ext_) hb6 (fun i hi h => (by have h1 := h.1; simp only [zD] at h1; omega))
    clear hb6
    go_wp2
    refine bodyPost_ret (v := .tuple #[.agg #[.slice fL fLn fLc, .slice fP fPn fPc, .slice fD fDn fDc, .int .i64 x.1.clock, .slice fN fNn fNc, .slice fS fSn fSc], .int .i64 x.2]) (by simp [results, Try.results31, go_sem, *]) rfl ?_
    refine ⟨_, _, _, _, _, _, _, _, _, _, _, _, _, _, _, τ6, by rw [He.out, ← Hx.out], ?_, ext_⟩
    rw [He.out, ← Hx.out]
    exact OwM.less (ho6.keepF (by (exact kf_))) (by exact sz_)
end Go.Proofs.Ytimpagcanengoaa

