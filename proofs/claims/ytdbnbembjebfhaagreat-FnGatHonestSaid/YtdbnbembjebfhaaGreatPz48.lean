/-
  Texts joined: Clash.
-/
import Derived.Test.YtdbnbembjebfhaaGreatPz32
import Derived.Test.YtdbnbembjebfhaaGreatPz24
import Derived.Test.YtdbnbembjebfhaaGreatPz22
import Derived.Test.YtdbnbembjebfhaaGreatPz17
import Derived.Test.YtdbnbembjebfhaaGreatPz47
import Derived.Test.YtdbnbembjebfhaaGreatPz20
namespace Go.Proofs.YtdbnbembjebfhaaGreat
set_option maxRecDepth 100000
set_option linter.unusedSimpArgs false
set_option linter.unusedVariables false
open Go.RowKit Go
set_option maxHeartbeats 4000000

theorem clashR_some {N : Nat} {l rev : List Int} {i : Nat} {leaf : Int} {q : Int × Int × Int × Int} (h : Sw.clashR N l i leaf rev = some q) : ∃ M last rest, N = M + 1 ∧ ¬ l.length ≤ 1 ∧ rev = last :: rest := by
  cases N with
  | zero => simp [Sw.clashR] at h
  | succ M =>
    cases rev with
    | nil => simp [Sw.clashR] at h
    | cons a r =>
      by_cases hl : l.length ≤ 1
      · rw [Sw.clashR, if_pos hl] at h; cases h
      · exact ⟨M, a, r, rfl, hl, rfl⟩
theorem clashR_step {M i : Nat} {l rest : List Int} {leaf last : Int} (hl : ¬ l.length ≤ 1) : Sw.clashR (M + 1) l i leaf (last :: rest) =
    (if i < Sw.split l.length then
      if (Sw.upR (Sw.split l.length) i leaf rest).1 = Sw.root (l.take (Sw.split l.length)) ∧ last = Sw.root (l.drop (Sw.split l.length)) then Sw.clashR M (l.take (Sw.split l.length)) i leaf rest
      else some ((Sw.upR (Sw.split l.length) i leaf rest).1, last, Sw.root (l.take (Sw.split l.length)), Sw.root (l.drop (Sw.split l.length)))
    else
      if last = Sw.root (l.take (Sw.split l.length)) ∧ (Sw.upR (l.length - Sw.split l.length) (i - Sw.split l.length) leaf rest).1 = Sw.root (l.drop (Sw.split l.length)) then Sw.clashR M (l.drop (Sw.split l.length)) (i - Sw.split l.length) leaf rest
      else some (last, (Sw.upR (l.length - Sw.split l.length) (i - Sw.split l.length) leaf rest).1, Sw.root (l.take (Sw.split l.length)), Sw.root (l.drop (Sw.split l.length)))) := by
  rw [Sw.clashR, if_neg hl]
theorem iTreClash_c (A : Option Addr) (c n k : Nat) (leaf y : Int) (xs : List Int) (B : Option Addr) (d m : Nat) (ps : List Int) (q1 q2 q3 q4 : Int) (w : World) (hxs : RI w 0 A c n xs) (hps : RI w 0 B d m ps) (hok : Sw.treOk xs = true) (hpo : Sw.treOk ps = true) (hlf : Sw.mixOk leaf = true) (hk : k < n) (hch : Sw.treCheck (Sw.treRoot xs) n k leaf ps = true) (hy : xs[k]? = some y) (hne : y ≠ leaf) (hcl : Sw.clashR 40 xs k leaf ps.reverse = some (q1, q2, q3, q4)) : Calls Tryz.prog 15 #[.slice A n c, .int .i64 k, .int .i64 leaf, .slice B m d] w fun E w' => ∃ A' c', E = .returned (.slice A' 4 c') ∧ OwI w' w.heap.size A' c' 4 [q1, q2, q3, q4] ∧ Ex w w' := by
  have hl0 := hxs.1
  have h40 : n ≤ 40 := by simp [Sw.treOk] at hok; omega
  have hall : xs.all Sw.mixOk = true := by simp only [Sw.treOk, Bool.and_eq_true] at hok; exact hok.2
  have hpl := hps.1
  have hm40 : m ≤ 40 := by simp [Sw.treOk] at hpo; omega
  have hpal : ps.all Sw.mixOk = true := by simp only [Sw.treOk, Bool.and_eq_true] at hpo; exact hpo.2
  obtain ⟨g, off, y', hA, hg0, hg, hd, hy', hc0⟩ := at_I hxs hk
  obtain rfl : y' = y := Option.some.inj (hy'.symm.trans hy)
  have hyl : (y' == leaf) = false := by simpa using hne
  have HOK := Lib.hid hok
  have HCH := Lib.hid hch
  have t1 : (0 : Int) ≤ (k : Int) := by omega
  have t2 : (k : Int) < n := by omega
  subst hA
  clear hd hy hy' hne hok hpo hch hl0 hpl
  go_enter Tryz.func15, Tryz.ntmps15
  go_wp2_with (first | (go_at_call 61; apply Calls.mono; apply (iTreOk_c (xs := xs)); (apply Rs.at0 hxs; (exact kf_)); rintro E w' ⟨rfl, rfl⟩; rw [HOK.out]) | (go_at_call 42; apply Calls.mono; apply (iTreRoot_c (xs := xs)); (apply Rs.at0 hxs; (exact kf_)); rintro E w1 ⟨rfl, hb⟩; have hst := xr hb; (try simp only [zA, zC, zD, zN] at hst); obtain ⟨hc, hf, hz⟩ := hst) | (go_at_call 62; apply Calls.mono; apply (iTreCheck_c (xs := ps)); (apply Rs.at0 hps; (exact kf_)); rintro E w2 ⟨rfl, hb⟩; rw [HCH.out]; have hst := xr hb; (try simp only [zA, zC, zD, zN] at hst); obtain ⟨hc, hf, hz⟩ := hst))
  go_loopw [0, 1, 3] (fun l i pr wr => ∃ (N : Nat) (A' : Option Addr) (c' n' : Nat) (xs' : List Int) (k' : Nat) (B' : Option Addr) (d' m' : Nat) (ps' : List Int), l = .slice A' n' c' ∧ i = .int .i64 k' ∧ pr = .slice B' m' d' ∧ RI w 0 A' c' n' xs' ∧ RI w 0 B' d' m' ps' ∧ n' ≤ 40 ∧ k' < n' ∧ m' ≤ 40 ∧ xs'.all Sw.mixOk = true ∧ ps'.all Sw.mixOk = true ∧ Ex w wr ∧ Sw.clashR N xs' k' leaf ps'.reverse = some (q1, q2, q3, q4)) (fun l _ _ _ => sliceLen l)
  case atStart => exact ⟨40, _, _, _, xs, k, _, _, _, ps, rfl, rfl, rfl, hxs, hps, h40, hk, hm40, hall, hpal, ext_, hcl⟩
  case round =>
    obtain ⟨N, A', c', n', xs', k', B', d', m', ps', rfl, rfl, rfl, hxs', hps', h40', hk', hm40', hxall, hpall, hb3, hcl'⟩ := hrel
    have hst := Ex.rules hb3 rfl
    obtain ⟨hc3, hf3, hz3⟩ := hst
    obtain ⟨M, last, rest, rfl, hbig, hrev⟩ := clashR_some hcl'
    have hlx := hxs'.1
    have hlp := hps'.1
    rw [hrev, clashR_step hbig, ← hlx] at hcl'
    have h2 : 2 ≤ n' := by omega
    have hm1 : 1 ≤ m' := by
      rcases Nat.eq_zero_or_pos m' with h | h
      · exfalso
        have : ps' = [] := List.eq_nil_of_length_eq_zero (by omega)
        rw [this] at hrev; simp at hrev
      · exact h
    obtain ⟨p, rfl⟩ : ∃ p, m' = p + 1 := ⟨m' - 1, by omega⟩
    obtain ⟨g1, o1, z1, rfl, -, -, -, -, -⟩ := at_I hxs' (show 0 < n' by omega)
    obtain ⟨g2, o2, y2, rfl, hg20, hg2, -, hy2, hc2⟩ := at_I hps' (show p < p + 1 by omega)
    have hrs := rev_snoc (by omega) hy2
    rw [hrs] at hrev
    obtain ⟨rfl, rfl⟩ : y2 = last ∧ (ps'.take p).reverse = rest := by injection hrev with h1 h2; exact ⟨h1, h2⟩
    have hptake : (ps'.take p).all Sw.mixOk = true := List.all_take hpall
    have hs1 := Sw.split_lt h2
    have hs0 := Sw.split_pos n'
    have hcap := hxs'.2.le
    have hcap2 := hps'.2.le
    have hdrop : RI w 0 (some ⟨g1, o1 + Sw.split n', none⟩) (c' - Sw.split n') (n' - Sw.split n') (xs'.drop (Sw.split n')) := by
      have := RI_drop hxs' hs1
      simpa [Addr.add_lit] using this
    have w1 : IntKind.i64.wrap ((p : Int) + 1 - 1) = p := by rw [IntWalk.i64_in _ (by omega)]; omega
    have w2 : IntKind.i64.wrap (p : Int) = p := IntWalk.i64_in _ (by omega)
    have tp : (p : Int) < (p : Int) + 1 := by omega
    have tp0 : (0 : Int) ≤ (p : Int) := by omega
    have z1 : (1 : Int) < (n' : Int) := by omega
    have z3 : ¬ (c' = Sw.split n') := by omega
    have z0 : (0 : Int) ≤ ↑(Sw.split n') := by omega
    have z4 : (↑(Sw.split n') : Int) ≤ ↑n' := by omega
    have z5 : (↑(Sw.split n') : Int) ≤ ↑c' := by omega
    have z6 : (p : Int) ≤ d' := by omega
    obtain ⟨lf, elf⟩ : ∃ x, x = Sw.root (xs'.take (Sw.split n')) := ⟨_, rfl⟩
    obtain ⟨rt, ert⟩ : ∃ x, x = Sw.root (xs'.drop (Sw.split n')) := ⟨_, rfl⟩
    have HL := Lib.hid elf
    have HR := Lib.hid ert
    rw [← elf, ← ert] at hcl'
    have HLX := Lib.hid hlx
    clear elf ert hrs hrev hy2 hlx hlp
    by_cases hms : k' < Sw.split n'
    · rw [if_pos hms] at hcl'
      obtain ⟨a, ea⟩ : ∃ x, x = (Sw.upR (Sw.split n') k' leaf (ps'.take p).reverse).1 := ⟨_, rfl⟩
      have HA := Lib.hid ea
      rw [← ea] at hcl'
      clear ea
      have hms' : (k' : Int) < (Sw.split n' : Int) := by omega
      by_cases hc : a = lf ∧ y2 = rt
      · rw [if_pos hc] at hcl'
        have e1 : (a != lf) = false := by simp [hc.1]
        have e2 : (y2 != rt) = false := by simp [hc.2]
        have HC := Lib.hid hcl'
        clear hc hcl'
        go_wp2_with (first | (go_at_call 63; apply Calls.mono; apply iSplit_c; (first | assumption | omega); (first | assumption | omega); rintro E w' ⟨rfl, rfl⟩) | (go_at_call 65; apply Calls.mono; apply (iUp_c 40 (k := k') (m := Sw.split n') (leaf := leaf) (xs := ps'.take p)); omega; (exact Rs.at0 (RI_take hps' (by omega)) kf_); omega; exact hptake; exact hlf; omega; omega; omega; rintro E w5 ⟨rfl, hb⟩; rw [← HA.out]; have hst := xr hb; (try simp only [zA, zC, zD, zN] at hst); obtain ⟨hc, hf, hz⟩ := hst))
        (focus (refine wp_name ?_; intro W0 hb0; have hst := xr hb0; (try simp only [zA, zC, zD, zN] at hst); obtain ⟨hc0, hf0, hz0⟩ := hst; refine wp_regionX [] (S := fun w' => Held W0 w') hdH (fun hHeld => ?_); refine GoesX.take 0 46 [] hHeld (h := ?_); refine GoesX.take 1 47 [] hHeld (h := ?_); refine GoesX.take 2 48 [] hHeld (h := ?_); refine GoesX.take 4 50 [] hHeld (h := ?_); refine GoesX.take 5 51 [] hHeld (h := ?_); refine GoesX.take 6 52 [] hHeld (h := ?_); refine GoesX.one 3 (h := fun K hK => ?_); go_simp; (first | (go_at_call 64; apply Calls.mono; with_reducible apply (iRoot_c 40 (some ⟨g1, o1, none⟩) c' (Sw.split n') (xs'.take (Sw.split n'))); omega; (exact Rs.at0 (RI_take hxs' (by omega)) kf_); omega; exact List.all_take hxall; rintro E w3 ⟨rfl, hb⟩; rw [← HL.out]; have hst := xr hb; (try simp only [zA, zC, zD, zN] at hst); obtain ⟨hc, hf, hz⟩ := hst) | (go_at_call 64; apply Calls.mono; apply (iRoot_c 40 (xs := xs'.drop (Sw.split n'))); omega; (exact Rs.at0 hdrop kf_); omega; exact List.all_drop hxall; rintro E w4 ⟨rfl, hb⟩; rw [← HR.out]; have hst := xr hb; (try simp only [zA, zC, zD, zN] at hst); obtain ⟨hc, hf, hz⟩ := hst)); (try go_wp2_with fail); refine outS hK hdH (h := fun hH2 => ?_); clear hK K hHeld; have hHeld := hH2; clear hH2; refine GoesX.one 7 (h := fun K hK => ?_); go_simp; (first | (go_at_call 64; apply Calls.mono; with_reducible apply (iRoot_c 40 (some ⟨g1, o1, none⟩) c' (Sw.split n') (xs'.take (Sw.split n'))); omega; (exact Rs.at0 (RI_take hxs' (by omega)) kf_); omega; exact List.all_take hxall; rintro E w3 ⟨rfl, hb⟩; rw [← HL.out]; have hst := xr hb; (try simp only [zA, zC, zD, zN] at hst); obtain ⟨hc, hf, hz⟩ := hst) | (go_at_call 64; apply Calls.mono; apply (iRoot_c 40 (xs := xs'.drop (Sw.split n'))); omega; (exact Rs.at0 hdrop kf_); omega; exact List.all_drop hxall; rintro E w4 ⟨rfl, hb⟩; rw [← HR.out]; have hst := xr hb; (try simp only [zA, zC, zD, zN] at hst); obtain ⟨hc, hf, hz⟩ := hst)); (try go_wp2_with fail); refine outS hK hdH (h := fun hH2 => ?_); clear hK K hHeld; have hHeld := hH2; clear hH2; refine GoesX.take 8 11 [] hHeld (h := ?_); refine GoesX.take 9 12 [] hHeld (h := ?_); refine GoesX.done (by kernel_rfl) ?_ _; all_goals (have hb := And.right (by assumption : Held W0 _); have hst := xr hb; (try simp only [zA, zC, zD, zN] at hst); obtain ⟨hc, hf, hz⟩ := hst)))
        go_wp2_with (first | (go_at_call 63; apply Calls.mono; apply iSplit_c; (first | assumption | omega); (first | assumption | omega); rintro E w' ⟨rfl, rfl⟩) | (go_at_call 65; apply Calls.mono; apply (iUp_c 40 (k := k') (m := Sw.split n') (leaf := leaf) (xs := ps'.take p)); omega; (exact Rs.at0 (RI_take hps' (by omega)) kf_); omega; exact hptake; exact hlf; omega; omega; omega; rintro E w5 ⟨rfl, hb⟩; rw [← HA.out]; have hst := xr hb; (try simp only [zA, zC, zD, zN] at hst); obtain ⟨hc, hf, hz⟩ := hst))
        go_roundw
        case rel => exact ⟨M, some ⟨g1, o1, none⟩, c', Sw.split n', xs'.take (Sw.split n'), k', some ⟨g2, o2, none⟩, d', p, ps'.take p, rfl, rfl, rfl, RI_take hxs' (by omega), RI_take hps' (by omega), by omega, hms, by omega, List.all_take hxall, hptake, ext_, HC.out⟩
        case measure => simp [sliceLen]; omega
      · rw [if_neg hc] at hcl'
        injection hcl' with hq
        injection hq with h1 hq
        injection hq with h2' hq
        injection hq with h3 h4
        subst h1 h2' h3 h4
        by_cases ha : a = lf
        · have e1 : (a != lf) = false := by simp [ha]
          have e2 : (y2 != rt) = true := by
            have : y2 ≠ rt := fun h => hc ⟨ha, h⟩
            simpa using this
          clear hc ha
          go_wp2_with (first | (go_at_call 63; apply Calls.mono; apply iSplit_c; (first | assumption | omega); (first | assumption | omega); rintro E w' ⟨rfl, rfl⟩) | (go_at_call 65; apply Calls.mono; apply (iUp_c 40 (k := k') (m := Sw.split n') (leaf := leaf) (xs := ps'.take p)); omega; (exact Rs.at0 (RI_take hps' (by omega)) kf_); omega; exact hptake; exact hlf; omega; omega; omega; rintro E w5 ⟨rfl, hb⟩; rw [← HA.out]; have hst := xr hb; (try simp only [zA, zC, zD, zN] at hst); obtain ⟨hc, hf, hz⟩ := hst))
          (focus (refine wp_name ?_; intro W0 hb0; have hst := xr hb0; (try simp only [zA, zC, zD, zN] at hst); obtain ⟨hc0, hf0, hz0⟩ := hst; refine wp_regionX [] (S := fun w' => Held W0 w') hdH (fun hHeld => ?_); refine GoesX.take 0 46 [] hHeld (h := ?_); refine GoesX.take 1 47 [] hHeld (h := ?_); refine GoesX.take 2 48 [] hHeld (h := ?_); refine GoesX.take 4 50 [] hHeld (h := ?_); refine GoesX.take 5 51 [] hHeld (h := ?_); refine GoesX.take 6 52 [] hHeld (h := ?_); refine GoesX.one 3 (h := fun K hK => ?_); go_simp; (first | (go_at_call 64; apply Calls.mono; with_reducible apply (iRoot_c 40 (some ⟨g1, o1, none⟩) c' (Sw.split n') (xs'.take (Sw.split n'))); omega; (exact Rs.at0 (RI_take hxs' (by omega)) kf_); omega; exact List.all_take hxall; rintro E w3 ⟨rfl, hb⟩; rw [← HL.out]; have hst := xr hb; (try simp only [zA, zC, zD, zN] at hst); obtain ⟨hc, hf, hz⟩ := hst) | (go_at_call 64; apply Calls.mono; apply (iRoot_c 40 (xs := xs'.drop (Sw.split n'))); omega; (exact Rs.at0 hdrop kf_); omega; exact List.all_drop hxall; rintro E w4 ⟨rfl, hb⟩; rw [← HR.out]; have hst := xr hb; (try simp only [zA, zC, zD, zN] at hst); obtain ⟨hc, hf, hz⟩ := hst)); (try go_wp2_with fail); refine outS hK hdH (h := fun hH2 => ?_); clear hK K hHeld; have hHeld := hH2; clear hH2; refine GoesX.one 7 (h := fun K hK => ?_); go_simp; (first | (go_at_call 64; apply Calls.mono; with_reducible apply (iRoot_c 40 (some ⟨g1, o1, none⟩) c' (Sw.split n') (xs'.take (Sw.split n'))); omega; (exact Rs.at0 (RI_take hxs' (by omega)) kf_); omega; exact List.all_take hxall; rintro E w3 ⟨rfl, hb⟩; rw [← HL.out]; have hst := xr hb; (try simp only [zA, zC, zD, zN] at hst); obtain ⟨hc, hf, hz⟩ := hst) | (go_at_call 64; apply Calls.mono; apply (iRoot_c 40 (xs := xs'.drop (Sw.split n'))); omega; (exact Rs.at0 hdrop kf_); omega; exact List.all_drop hxall; rintro E w4 ⟨rfl, hb⟩; rw [← HR.out]; have hst := xr hb; (try simp only [zA, zC, zD, zN] at hst); obtain ⟨hc, hf, hz⟩ := hst)); (try go_wp2_with fail); refine outS hK hdH (h := fun hH2 => ?_); clear hK K hHeld; have hHeld := hH2; clear hH2; refine GoesX.take 8 11 [] hHeld (h := ?_); refine GoesX.take 9 12 [] hHeld (h := ?_); refine GoesX.done (by kernel_rfl) ?_ _; all_goals (have hb := And.right (by assumption : Held W0 _); have hst := xr hb; (try simp only [zA, zC, zD, zN] at hst); obtain ⟨hc, hf, hz⟩ := hst)))
          go_wp2_with (first | (go_at_call 63; apply Calls.mono; apply iSplit_c; (first | assumption | omega); (first | assumption | omega); rintro E w' ⟨rfl, rfl⟩) | (go_at_call 65; apply Calls.mono; apply (iUp_c 40 (k := k') (m := Sw.split n') (leaf := leaf) (xs := ps'.take p)); omega; (exact Rs.at0 (RI_take hps' (by omega)) kf_); omega; exact hptake; exact hlf; omega; omega; omega; rintro E w5 ⟨rfl, hb⟩; rw [← HA.out]; have hst := xr hb; (try simp only [zA, zC, zD, zN] at hst); obtain ⟨hc, hf, hz⟩ := hst))
          go_ret
          exact ⟨_, _, rfl, by (refine Ow.new [_, _, _, _] (by (first | rfl | (simp only [zA, zC, zD, zN]; done) | omega)) rfl rfl (fun _ => rfl) (by exact sz_) (by omega)), ext_⟩
        · have e1 : (a != lf) = true := by simpa using ha
          clear hc ha
          go_wp2_with (first | (go_at_call 63; apply Calls.mono; apply iSplit_c; (first | assumption | omega); (first | assumption | omega); rintro E w' ⟨rfl, rfl⟩) | (go_at_call 65; apply Calls.mono; apply (iUp_c 40 (k := k') (m := Sw.split n') (leaf := leaf) (xs := ps'.take p)); omega; (exact Rs.at0 (RI_take hps' (by omega)) kf_); omega; exact hptake; exact hlf; omega; omega; omega; rintro E w5 ⟨rfl, hb⟩; rw [← HA.out]; have hst := xr hb; (try simp only [zA, zC, zD, zN] at hst); obtain ⟨hc, hf, hz⟩ := hst))
          (focus (refine wp_name ?_; intro W0 hb0; have hst := xr hb0; (try simp only [zA, zC, zD, zN] at hst); obtain ⟨hc0, hf0, hz0⟩ := hst; refine wp_regionX [] (S := fun w' => Held W0 w') hdH (fun hHeld => ?_); refine GoesX.take 0 46 [] hHeld (h := ?_); refine GoesX.take 1 47 [] hHeld (h := ?_); refine GoesX.take 2 48 [] hHeld (h := ?_); refine GoesX.take 4 50 [] hHeld (h := ?_); refine GoesX.take 5 51 [] hHeld (h := ?_); refine GoesX.take 6 52 [] hHeld (h := ?_); refine GoesX.one 3 (h := fun K hK => ?_); go_simp; (first | (go_at_call 64; apply Calls.mono; with_reducible apply (iRoot_c 40 (some ⟨g1, o1, none⟩) c' (Sw.split n') (xs'.take (Sw.split n'))); omega; (exact Rs.at0 (RI_take hxs' (by omega)) kf_); omega; exact List.all_take hxall; rintro E w3 ⟨rfl, hb⟩; rw [← HL.out]; have hst := xr hb; (try simp only [zA, zC, zD, zN] at hst); obtain ⟨hc, hf, hz⟩ := hst) | (go_at_call 64; apply Calls.mono; apply (iRoot_c 40 (xs := xs'.drop (Sw.split n'))); omega; (exact Rs.at0 hdrop kf_); omega; exact List.all_drop hxall; rintro E w4 ⟨rfl, hb⟩; rw [← HR.out]; have hst := xr hb; (try simp only [zA, zC, zD, zN] at hst); obtain ⟨hc, hf, hz⟩ := hst)); (try go_wp2_with fail); refine outS hK hdH (h := fun hH2 => ?_); clear hK K hHeld; have hHeld := hH2; clear hH2; refine GoesX.one 7 (h := fun K hK => ?_); go_simp; (first | (go_at_call 64; apply Calls.mono; with_reducible apply (iRoot_c 40 (some ⟨g1, o1, none⟩) c' (Sw.split n') (xs'.take (Sw.split n'))); omega; (exact Rs.at0 (RI_take hxs' (by omega)) kf_); omega; exact List.all_take hxall; rintro E w3 ⟨rfl, hb⟩; rw [← HL.out]; have hst := xr hb; (try simp only [zA, zC, zD, zN] at hst); obtain ⟨hc, hf, hz⟩ := hst) | (go_at_call 64; apply Calls.mono; apply (iRoot_c 40 (xs := xs'.drop (Sw.split n'))); omega; (exact Rs.at0 hdrop kf_); omega; exact List.all_drop hxall; rintro E w4 ⟨rfl, hb⟩; rw [← HR.out]; have hst := xr hb; (try simp only [zA, zC, zD, zN] at hst); obtain ⟨hc, hf, hz⟩ := hst)); (try go_wp2_with fail); refine outS hK hdH (h := fun hH2 => ?_); clear hK K hHeld; have hHeld := hH2; clear hH2; refine GoesX.take 8 11 [] hHeld (h := ?_); refine GoesX.take 9 12 [] hHeld (h := ?_); refine GoesX.done (by kernel_rfl) ?_ _; all_goals (have hb := And.right (by assumption : Held W0 _); have hst := xr hb; (try simp only [zA, zC, zD, zN] at hst); obtain ⟨hc, hf, hz⟩ := hst)))
          go_wp2_with (first | (go_at_call 63; apply Calls.mono; apply iSplit_c; (first | assumption | omega); (first | assumption | omega); rintro E w' ⟨rfl, rfl⟩) | (go_at_call 65; apply Calls.mono; apply (iUp_c 40 (k := k') (m := Sw.split n') (leaf := leaf) (xs := ps'.take p)); omega; (exact Rs.at0 (RI_take hps' (by omega)) kf_); omega; exact hptake; exact hlf; omega; omega; omega; rintro E w5 ⟨rfl, hb⟩; rw [← HA.out]; have hst := xr hb; (try simp only [zA, zC, zD, zN] at hst); obtain ⟨hc, hf, hz⟩ := hst))
          go_ret
          exact ⟨_, _, rfl, by (refine Ow.new [_, _, _, _] (by (first | rfl | (simp only [zA, zC, zD, zN]; done) | omega)) rfl rfl (fun _ => rfl) (by exact sz_) (by omega)), ext_⟩
    · rw [if_neg hms] at hcl'
      obtain ⟨a, ea⟩ : ∃ x, x = (Sw.upR (n' - Sw.split n') (k' - Sw.split n') leaf (ps'.take p).reverse).1 := ⟨_, rfl⟩
      have HA := Lib.hid ea
      rw [← ea] at hcl'
      clear ea
      have hms' : ¬ (k' : Int) < (Sw.split n' : Int) := by omega
      have y0 : IntKind.i64.wrap ((k' : Int) - ↑(Sw.split n')) = ((k' - Sw.split n' : Nat) : Int) := by rw [IntWalk.i64_in _ (by omega)]; omega
      have y1 : IntKind.i64.wrap ((n' : Int) - ↑(Sw.split n')) = ((n' - Sw.split n' : Nat) : Int) := by rw [IntWalk.i64_in _ (by omega)]; omega
      by_cases hc : y2 = lf ∧ a = rt
      · rw [if_pos hc] at hcl'
        have e1 : (y2 != lf) = false := by simp [hc.1]
        have e2 : (a != rt) = false := by simp [hc.2]
        have HC := Lib.hid hcl'
        clear hc hcl'
        go_wp2_with (first | (go_at_call 63; apply Calls.mono; apply iSplit_c; (first | assumption | omega); (first | assumption | omega); rintro E w' ⟨rfl, rfl⟩) | (go_at_call 65; apply Calls.mono; apply (iUp_c 40 (k := k' - Sw.split n') (m := n' - Sw.split n') (leaf := leaf) (xs := ps'.take p)); omega; (exact Rs.at0 (RI_take hps' (by omega)) kf_); omega; exact hptake; exact hlf; omega; omega; omega; rintro E w5 ⟨rfl, hb⟩; rw [← HA.out]; have hst := xr hb; (try simp only [zA, zC, zD, zN] at hst); obtain ⟨hc, hf, hz⟩ := hst))
        (focus (refine wp_name ?_; intro W0 hb0; have hst := xr hb0; (try simp only [zA, zC, zD, zN] at hst); obtain ⟨hc0, hf0, hz0⟩ := hst; refine wp_regionX [] (S := fun w' => Held W0 w') hdH (fun hHeld => ?_); refine GoesX.take 0 46 [] hHeld (h := ?_); refine GoesX.take 1 47 [] hHeld (h := ?_); refine GoesX.take 2 48 [] hHeld (h := ?_); refine GoesX.take 4 50 [] hHeld (h := ?_); refine GoesX.take 5 51 [] hHeld (h := ?_); refine GoesX.take 6 52 [] hHeld (h := ?_); refine GoesX.one 3 (h := fun K hK => ?_); go_simp; (first | (go_at_call 64; apply Calls.mono; with_reducible apply (iRoot_c 40 (some ⟨g1, o1, none⟩) c' (Sw.split n') (xs'.take (Sw.split n'))); omega; (exact Rs.at0 (RI_take hxs' (by omega)) kf_); omega; exact List.all_take hxall; rintro E w3 ⟨rfl, hb⟩; rw [← HL.out]; have hst := xr hb; (try simp only [zA, zC, zD, zN] at hst); obtain ⟨hc, hf, hz⟩ := hst) | (go_at_call 64; apply Calls.mono; apply (iRoot_c 40 (xs := xs'.drop (Sw.split n'))); omega; (exact Rs.at0 hdrop kf_); omega; exact List.all_drop hxall; rintro E w4 ⟨rfl, hb⟩; rw [← HR.out]; have hst := xr hb; (try simp only [zA, zC, zD, zN] at hst); obtain ⟨hc, hf, hz⟩ := hst)); (try go_wp2_with fail); refine outS hK hdH (h := fun hH2 => ?_); clear hK K hHeld; have hHeld := hH2; clear hH2; refine GoesX.one 7 (h := fun K hK => ?_); go_simp; (first | (go_at_call 64; apply Calls.mono; with_reducible apply (iRoot_c 40 (some ⟨g1, o1, none⟩) c' (Sw.split n') (xs'.take (Sw.split n'))); omega; (exact Rs.at0 (RI_take hxs' (by omega)) kf_); omega; exact List.all_take hxall; rintro E w3 ⟨rfl, hb⟩; rw [← HL.out]; have hst := xr hb; (try simp only [zA, zC, zD, zN] at hst); obtain ⟨hc, hf, hz⟩ := hst) | (go_at_call 64; apply Calls.mono; apply (iRoot_c 40 (xs := xs'.drop (Sw.split n'))); omega; (exact Rs.at0 hdrop kf_); omega; exact List.all_drop hxall; rintro E w4 ⟨rfl, hb⟩; rw [← HR.out]; have hst := xr hb; (try simp only [zA, zC, zD, zN] at hst); obtain ⟨hc, hf, hz⟩ := hst)); (try go_wp2_with fail); refine outS hK hdH (h := fun hH2 => ?_); clear hK K hHeld; have hHeld := hH2; clear hH2; refine GoesX.take 8 11 [] hHeld (h := ?_); refine GoesX.take 9 12 [] hHeld (h := ?_); refine GoesX.done (by kernel_rfl) ?_ _; all_goals (have hb := And.right (by assumption : Held W0 _); have hst := xr hb; (try simp only [zA, zC, zD, zN] at hst); obtain ⟨hc, hf, hz⟩ := hst)))
        go_wp2_with (first | (go_at_call 63; apply Calls.mono; apply iSplit_c; (first | assumption | omega); (first | assumption | omega); rintro E w' ⟨rfl, rfl⟩) | (go_at_call 65; apply Calls.mono; apply (iUp_c 40 (k := k' - Sw.split n') (m := n' - Sw.split n') (leaf := leaf) (xs := ps'.take p)); omega; (exact Rs.at0 (RI_take hps' (by omega)) kf_); omega; exact hptake; exact hlf; omega; omega; omega; rintro E w5 ⟨rfl, hb⟩; rw [← HA.out]; have hst := xr hb; (try simp only [zA, zC, zD, zN] at hst); obtain ⟨hc, hf, hz⟩ := hst))
        go_roundw
        case rel => exact ⟨M, _, c' - Sw.split n', n' - Sw.split n', xs'.drop (Sw.split n'), k' - Sw.split n', some ⟨g2, o2, none⟩, d', p, ps'.take p, rfl, rfl, rfl, hdrop, RI_take hps' (by omega), by omega, by omega, by omega, List.all_drop hxall, hptake, ext_, HC.out⟩
        case measure => simp [sliceLen]; omega
      · rw [if_neg hc] at hcl'
        injection hcl' with hq
        injection hq with h1 hq
        injection hq with h2' hq
        injection hq with h3 h4
        subst h1 h2' h3 h4
        by_cases ha : y2 = lf
        · have e1 : (y2 != lf) = false := by simp [ha]
          have e2 : (a != rt) = true := by
            have : a ≠ rt := fun h => hc ⟨ha, h⟩
            simpa using this
          clear hc ha
          go_wp2_with (first | (go_at_call 63; apply Calls.mono; apply iSplit_c; (first | assumption | omega); (first | assumption | omega); rintro E w' ⟨rfl, rfl⟩) | (go_at_call 65; apply Calls.mono; apply (iUp_c 40 (k := k' - Sw.split n') (m := n' - Sw.split n') (leaf := leaf) (xs := ps'.take p)); omega; (exact Rs.at0 (RI_take hps' (by omega)) kf_); omega; exact hptake; exact hlf; omega; omega; omega; rintro E w5 ⟨rfl, hb⟩; rw [← HA.out]; have hst := xr hb; (try simp only [zA, zC, zD, zN] at hst); obtain ⟨hc, hf, hz⟩ := hst))
          (focus (refine wp_name ?_; intro W0 hb0; have hst := xr hb0; (try simp only [zA, zC, zD, zN] at hst); obtain ⟨hc0, hf0, hz0⟩ := hst; refine wp_regionX [] (S := fun w' => Held W0 w') hdH (fun hHeld => ?_); refine GoesX.take 0 46 [] hHeld (h := ?_); refine GoesX.take 1 47 [] hHeld (h := ?_); refine GoesX.take 2 48 [] hHeld (h := ?_); refine GoesX.take 4 50 [] hHeld (h := ?_); refine GoesX.take 5 51 [] hHeld (h := ?_); refine GoesX.take 6 52 [] hHeld (h := ?_); refine GoesX.one 3 (h := fun K hK => ?_); go_simp; (first | (go_at_call 64; apply Calls.mono; with_reducible apply (iRoot_c 40 (some ⟨g1, o1, none⟩) c' (Sw.split n') (xs'.take (Sw.split n'))); omega; (exact Rs.at0 (RI_take hxs' (by omega)) kf_); omega; exact List.all_take hxall; rintro E w3 ⟨rfl, hb⟩; rw [← HL.out]; have hst := xr hb; (try simp only [zA, zC, zD, zN] at hst); obtain ⟨hc, hf, hz⟩ := hst) | (go_at_call 64; apply Calls.mono; apply (iRoot_c 40 (xs := xs'.drop (Sw.split n'))); omega; (exact Rs.at0 hdrop kf_); omega; exact List.all_drop hxall; rintro E w4 ⟨rfl, hb⟩; rw [← HR.out]; have hst := xr hb; (try simp only [zA, zC, zD, zN] at hst); obtain ⟨hc, hf, hz⟩ := hst)); (try go_wp2_with fail); refine outS hK hdH (h := fun hH2 => ?_); clear hK K hHeld; have hHeld := hH2; clear hH2; refine GoesX.one 7 (h := fun K hK => ?_); go_simp; (first | (go_at_call 64; apply Calls.mono; with_reducible apply (iRoot_c 40 (some ⟨g1, o1, none⟩) c' (Sw.split n') (xs'.take (Sw.split n'))); omega; (exact Rs.at0 (RI_take hxs' (by omega)) kf_); omega; exact List.all_take hxall; rintro E w3 ⟨rfl, hb⟩; rw [← HL.out]; have hst := xr hb; (try simp only [zA, zC, zD, zN] at hst); obtain ⟨hc, hf, hz⟩ := hst) | (go_at_call 64; apply Calls.mono; apply (iRoot_c 40 (xs := xs'.drop (Sw.split n'))); omega; (exact Rs.at0 hdrop kf_); omega; exact List.all_drop hxall; rintro E w4 ⟨rfl, hb⟩; rw [← HR.out]; have hst := xr hb; (try simp only [zA, zC, zD, zN] at hst); obtain ⟨hc, hf, hz⟩ := hst)); (try go_wp2_with fail); refine outS hK hdH (h := fun hH2 => ?_); clear hK K hHeld; have hHeld := hH2; clear hH2; refine GoesX.take 8 11 [] hHeld (h := ?_); refine GoesX.take 9 12 [] hHeld (h := ?_); refine GoesX.done (by kernel_rfl) ?_ _; all_goals (have hb := And.right (by assumption : Held W0 _); have hst := xr hb; (try simp only [zA, zC, zD, zN] at hst); obtain ⟨hc, hf, hz⟩ := hst)))
          go_wp2_with (first | (go_at_call 63; apply Calls.mono; apply iSplit_c; (first | assumption | omega); (first | assumption | omega); rintro E w' ⟨rfl, rfl⟩) | (go_at_call 65; apply Calls.mono; apply (iUp_c 40 (k := k' - Sw.split n') (m := n' - Sw.split n') (leaf := leaf) (xs := ps'.take p)); omega; (exact Rs.at0 (RI_take hps' (by omega)) kf_); omega; exact hptake; exact hlf; omega; omega; omega; rintro E w5 ⟨rfl, hb⟩; rw [← HA.out]; have hst := xr hb; (try simp only [zA, zC, zD, zN] at hst); obtain ⟨hc, hf, hz⟩ := hst))
          go_ret
          exact ⟨_, _, rfl, by (refine Ow.new [_, _, _, _] (by (first | rfl | (simp only [zA, zC, zD, zN]; done) | omega)) rfl rfl (fun _ => rfl) (by exact sz_) (by omega)), ext_⟩
        · have e1 : (y2 != lf) = true := by simpa using ha
          clear hc ha
          go_wp2_with (first | (go_at_call 63; apply Calls.mono; apply iSplit_c; (first | assumption | omega); (first | assumption | omega); rintro E w' ⟨rfl, rfl⟩) | (go_at_call 65; apply Calls.mono; apply (iUp_c 40 (k := k' - Sw.split n') (m := n' - Sw.split n') (leaf := leaf) (xs := ps'.take p)); omega; (exact Rs.at0 (RI_take hps' (by omega)) kf_); omega; exact hptake; exact hlf; omega; omega; omega; rintro E w5 ⟨rfl, hb⟩; rw [← HA.out]; have hst := xr hb; (try simp only [zA, zC, zD, zN] at hst); obtain ⟨hc, hf, hz⟩ := hst))
          (focus (refine wp_name ?_; intro W0 hb0; have hst := xr hb0; (try simp only [zA, zC, zD, zN] at hst); obtain ⟨hc0, hf0, hz0⟩ := hst; refine wp_regionX [] (S := fun w' => Held W0 w') hdH (fun hHeld => ?_); refine GoesX.take 0 46 [] hHeld (h := ?_); refine GoesX.take 1 47 [] hHeld (h := ?_); refine GoesX.take 2 48 [] hHeld (h := ?_); refine GoesX.take 4 50 [] hHeld (h := ?_); refine GoesX.take 5 51 [] hHeld (h := ?_); refine GoesX.take 6 52 [] hHeld (h := ?_); refine GoesX.one 3 (h := fun K hK => ?_); go_simp; (first | (go_at_call 64; apply Calls.mono; with_reducible apply (iRoot_c 40 (some ⟨g1, o1, none⟩) c' (Sw.split n') (xs'.take (Sw.split n'))); omega; (exact Rs.at0 (RI_take hxs' (by omega)) kf_); omega; exact List.all_take hxall; rintro E w3 ⟨rfl, hb⟩; rw [← HL.out]; have hst := xr hb; (try simp only [zA, zC, zD, zN] at hst); obtain ⟨hc, hf, hz⟩ := hst) | (go_at_call 64; apply Calls.mono; apply (iRoot_c 40 (xs := xs'.drop (Sw.split n'))); omega; (exact Rs.at0 hdrop kf_); omega; exact List.all_drop hxall; rintro E w4 ⟨rfl, hb⟩; rw [← HR.out]; have hst := xr hb; (try simp only [zA, zC, zD, zN] at hst); obtain ⟨hc, hf, hz⟩ := hst)); (try go_wp2_with fail); refine outS hK hdH (h := fun hH2 => ?_); clear hK K hHeld; have hHeld := hH2; clear hH2; refine GoesX.one 7 (h := fun K hK => ?_); go_simp; (first | (go_at_call 64; apply Calls.mono; with_reducible apply (iRoot_c 40 (some ⟨g1, o1, none⟩) c' (Sw.split n') (xs'.take (Sw.split n'))); omega; (exact Rs.at0 (RI_take hxs' (by omega)) kf_); omega; exact List.all_take hxall; rintro E w3 ⟨rfl, hb⟩; rw [← HL.out]; have hst := xr hb; (try simp only [zA, zC, zD, zN] at hst); obtain ⟨hc, hf, hz⟩ := hst) | (go_at_call 64; apply Calls.mono; apply (iRoot_c 40 (xs := xs'.drop (Sw.split n'))); omega; (exact Rs.at0 hdrop kf_); omega; exact List.all_drop hxall; rintro E w4 ⟨rfl, hb⟩; rw [← HR.out]; have hst := xr hb; (try simp only [zA, zC, zD, zN] at hst); obtain ⟨hc, hf, hz⟩ := hst)); (try go_wp2_with fail); refine outS hK hdH (h := fun hH2 => ?_); clear hK K hHeld; have hHeld := hH2; clear hH2; refine GoesX.take 8 11 [] hHeld (h := ?_); refine GoesX.take 9 12 [] hHeld (h := ?_); refine GoesX.done (by kernel_rfl) ?_ _; all_goals (have hb := And.right (by assumption : Held W0 _); have hst := xr hb; (try simp only [zA, zC, zD, zN] at hst); obtain ⟨hc, hf, hz⟩ := hst)))
          go_wp2_with (first | (go_at_call 63; apply Calls.mono; apply iSplit_c; (first | assumption | omega); (first | assumption | omega); rintro E w' ⟨rfl, rfl⟩) | (go_at_call 65; apply Calls.mono; apply (iUp_c 40 (k := k' - Sw.split n') (m := n' - Sw.split n') (leaf := leaf) (xs := ps'.take p)); omega; (exact Rs.at0 (RI_take hps' (by omega)) kf_); omega; exact hptake; exact hlf; omega; omega; omega; rintro E w5 ⟨rfl, hb⟩; rw [← HA.out]; have hst := xr hb; (try simp only [zA, zC, zD, zN] at hst); obtain ⟨hc, hf, hz⟩ := hst))
          go_ret
          exact ⟨_, _, rfl, by (refine Ow.new [_, _, _, _] (by (first | rfl | (simp only [zA, zC, zD, zN]; done) | omega)) rfl rfl (fun _ => rfl) (by exact sz_) (by omega)), ext_⟩
end Go.Proofs.YtdbnbembjebfhaaGreat

