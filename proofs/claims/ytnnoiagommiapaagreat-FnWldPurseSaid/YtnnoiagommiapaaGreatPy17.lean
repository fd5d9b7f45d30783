/- Texts joined: Both, LawTo3, DrawL, UpS. -/
import Derived.Test.YtnnoiagommiapaaGreatPy14
import Derived.Test.YtnnoiagommiapaaGreatPy15
import Derived.Test.YtnnoiagommiapaaGreatPy2
import Derived.Deep.DeepMust
import Derived.Test.YtnnoiagommiapaaGreatPy7
import Derived.Test.YtnnoiagommiapaaGreatPy5
set_option maxRecDepth 100000
set_option linter.unusedSimpArgs false
set_option linter.unusedVariables false
namespace Go.Proofs.YtnnoiagommiapaaGreat
open Go.RowKit Go
set_option maxHeartbeats 400000
theorem snoc_of {α : Type} {xs : List α} {n : Nat} {y : α} (hn : n + 1 = xs.length) (h : xs[n]? = some y) : xs = xs.take n ++ [y] := by
 rw [← take_snoc h, List.take_of_length_le (by omega)]
theorem rev_snoc {α : Type} {xs : List α} {n : Nat} {y : α} (hn : n + 1 = xs.length) (h : xs[n]? = some y) : xs.reverse = y :: (xs.take n).reverse := by
 conv => lhs; rw [snoc_of hn h]
 simp
theorem sBoth_c (N : Nat) (A : Option Addr) (c n m k : Nat) (old : Int) (kn : Bool) (xs : List Int) (w : World) (hN : n ≤ N) (hxs : RI w 0 A c n xs) (h40 : n ≤ 40) (hall : xs.all Sw.mixOk = true) (hold : Sw.mixOk old = true) (hm : 1 ≤ m) (hmk : m ≤ k) (hk40 : k ≤ 40) : Calls Tryz.prog 287 #[.int .i64 m, .int .i64 k, .int .i64 old, .slice A n c, .bool kn] w fun E w' => ∃ a b, E = .returned (.tuple #[.int .i64 a, .int .i64 b, .bool (Sw.grR m k old xs.reverse kn).isSome]) ∧ (∀ r, Sw.grR m k old xs.reverse kn = some r → r = (a, b)) ∧ Sw.mixOk a = true ∧ Sw.mixOk b = true ∧ Ex w w' := by
 induction N generalizing A c n m k kn xs w with
 | zero =>
   have hl := hxs.1
   obtain rfl : n = 0 := by omega
   have hx : xs = [] := List.eq_nil_of_length_eq_zero (by omega)
   subst hx
   clear hl
   by_cases hmk' : m = k
   · subst hmk'
     cases kn with
     | true =>
       go_enter Tryz.func287, Tryz.ntmps287
       go_wp2_with fail
       go_ret3
       exact ⟨old, old, by simp [Sw.grR], by simp [Sw.grR], hold, hold, ext_⟩
     | false =>
       go_enter Tryz.func287, Tryz.ntmps287
       go_wp2_with fail
       go_ret3
       exact ⟨0, 0, by simp [Sw.grR], by simp [Sw.grR], rfl, rfl, ext_⟩
   · have hb : ((m : Int) == k) = false := by simp; omega
     go_enter Tryz.func287, Tryz.ntmps287
     go_wp2_with fail
     go_ret3
     exact ⟨0, 0, by simp [Sw.grR, hmk'], by simp [Sw.grR, hmk'], rfl, rfl, ext_⟩
 | succ N ih =>
   have hl := Lib.hid hxs.1
   have hcap := hxs.2.le
   by_cases h0 : n = 0
   · subst h0
     have hx : xs = [] := List.eq_nil_of_length_eq_zero (by have := hl.out; omega)
     subst hx
     exact ih _ c 0 m k kn [] w (by omega) hxs (by omega) hall hm hmk hk40
   · obtain ⟨p, rfl⟩ : ∃ p, n = p + 1 := ⟨n - 1, by omega⟩
     obtain ⟨g, off, y, rfl, hg0, hg, hd, hy, hc⟩ := at_I hxs (show p < p + 1 by omega)
     have hrev := rev_snoc (by have := hl.out; omega) hy
     have hyok : Sw.mixOk y = true := List.all_eq_true.1 hall y (List.mem_of_getElem? hy)
     rw [hrev]
     have Hy := Lib.hid hy
     clear hd hy hrev
     by_cases hmk' : m = k
     · subst hmk'
       cases kn with
       | true =>
         have hb1 : ((p : Int) + 1 == 0) = false := by simp; omega
         go_enter Tryz.func287, Tryz.ntmps287
         go_wp2_with fail
         go_ret3
         exact ⟨old, old, by simp [Sw.grR], by simp [Sw.grR], hold, hold, ext_⟩
       | false =>
         by_cases hp : p = 0
         · subst hp
           simp only [Nat.add_zero] at hc
           go_enter Tryz.func287, Tryz.ntmps287
           go_wp2_with fail
           go_quiet ((first | fail))
           go_wp2
           go_ret3
           exact ⟨y, y, by simp [Sw.grR], by simp [Sw.grR], hyok, hyok, ext_⟩
         · have hb1 : ((p : Int) + 1 != 1) = true := by simp; omega
           have hne : ¬ (xs.take p = []) := by
             intro e
             have e1 := congrArg List.length e
             rw [List.length_take, List.length_nil] at e1
             have := hl.out
             omega
           go_enter Tryz.func287, Tryz.ntmps287
           go_wp2_with fail
           go_ret3
           exact ⟨0, 0, by simp [Sw.grR, hne], by simp [Sw.grR, hne], rfl, rfl, ext_⟩
     · have h2 : 2 ≤ k := by omega
       have hs1 := Sw.split_lt h2
       have hs0 := Sw.split_pos k
       have hb : ((m : Int) == k) = false := by simp; omega
       have hb1 : ((p : Int) + 1 == 0) = false := by simp; omega
       by_cases hms : m ≤ Sw.split k
       · go_enter Tryz.func287, Tryz.ntmps287
         go_wp2_with (first | (go_at_call 272; apply Calls.mono; apply sTreSplit_c; (first | assumption | omega); (first | assumption | omega); rintro E w' ⟨rfl, rfl⟩) | (go_at_call 287; apply Calls.mono; apply ih; omega; (apply Rs.at0; apply RI_take hxs; omega; (exact kf_)); omega; exact List.all_take hall; omega; omega; omega; rintro E w1 ⟨a, b, rfl, hr, ha, hb', hb⟩; obtain ⟨hc, hf, hz⟩ := xy hb) | (go_at_call 273; refine (sMixPair_c _ _ _).mono ?_; rintro E w' ⟨rfl, rfl⟩))
         go_ret3
         refine ⟨a, Sw.pair b y, ?_, ?_, ha, pair_ok _ _, ext_⟩
         · rw [mixPair_ok hb' hyok, Sw.grR, if_neg hmk', if_pos hms, Option.isSome_map]; rfl
         · intro r hr'
           rw [Sw.grR, if_neg hmk', if_pos hms, Option.map_eq_some_iff] at hr'
           obtain ⟨q, hq, rfl⟩ := hr'
           rw [hr q hq]
       · have y0 : IntKind.i64.wrap ((m : Int) - ↑(Sw.split k)) = ((m - Sw.split k : Nat) : Int) := by rw [IntWalk.i64_in _ (by omega)]; omega
         have y1 : IntKind.i64.wrap ((k : Int) - ↑(Sw.split k)) = ((k - Sw.split k : Nat) : Int) := by rw [IntWalk.i64_in _ (by omega)]; omega
         go_enter Tryz.func287, Tryz.ntmps287
         go_wp2_with (first | (go_at_call 272; apply Calls.mono; apply sTreSplit_c; (first | assumption | omega); (first | assumption | omega); rintro E w' ⟨rfl, rfl⟩) | (go_at_call 287; apply Calls.mono; apply ih; omega; (apply Rs.at0; apply RI_take hxs; omega; (exact kf_)); omega; exact List.all_take hall; omega; omega; omega; rintro E w1 ⟨a, b, rfl, hr, ha, hb', hb⟩; obtain ⟨hc, hf, hz⟩ := xy hb) | (go_at_call 273; refine (sMixPair_c _ _ _).mono ?_; rintro E w' ⟨rfl, rfl⟩))
         go_ret3
         refine ⟨Sw.pair y a, Sw.pair y b, ?_, ?_, pair_ok _ _, pair_ok _ _, ext_⟩
         · rw [mixPair_ok hyok ha, mixPair_ok hyok hb', Sw.grR, if_neg hmk', if_neg hms, Option.isSome_map]; rfl
         · intro r hr'
           rw [Sw.grR, if_neg hmk', if_neg hms, Option.map_eq_some_iff] at hr'
           obtain ⟨q, hq, rfl⟩ := hr'
           rw [hr q hq]
end Go.Proofs.YtnnoiagommiapaaGreat
namespace Go.Proofs.YtnnoiagommiapaaGreat
open Go.RowKit Go
set_option maxHeartbeats 400000
def tau5 (a b c d : Nat) : Nat → Nat := fun x => if x = a then 1 else if x = b then 2 else if x = c then 3 else if x = d then 4 else 5
section
variable {a b c d e : Nat}
end
section
variable {α : Type} {enc : α → List Value} {sz : Nat} {e : TypeId} {fd fp τ τ' : Nat → Nat} {t : Nat} {w w' : World} {lo lo' c n k : Nat} {A : Option Addr} {xs : List α}
theorem OwT.one {g : Nat} (h : Ow enc sz e w lo (some ⟨g, 0, none⟩) c n xs) (ht : τ g = t) : OwT enc sz e τ t w lo (some ⟨g, 0, none⟩) c n xs := ⟨h, fun a ha => by cases ha; exact ht⟩
theorem OwT.keepF (h : OwT enc sz e τ t w lo A c n xs) (hk : KF lo w w') : OwT enc sz e τ t w' lo A c n xs := h.keep (.of hk)
theorem OwM.keepF {aL : Option Addr} {aLc aLn : Nat} {aP : Option Addr} {aPc aPn : Nat} {aD : Option Addr} {aDc aDn : Nat} {aN : Option Addr} {aNc aNn : Nat} {aS : Option Addr} {aSc aSn : Nat} {m : Sw.Mkt} (h : OwM τ w lo aL aLc aLn aP aPc aPn aD aDc aDn aN aNc aNn aS aSc aSn m) (hk : KF lo w w') : OwM τ w' lo aL aLc aLn aP aPc aPn aD aDc aDn aN aNc aNn aS aSc aSn m := h.keep fun _ _ _ => .of hk
theorem OwG.keepF {gs : List Sw.Gate} (h : OwG fd τ w lo A c n gs) (hk : KF lo w w') : OwG fd τ w' lo A c n gs := h.keep (.of hk) fun _ => .of hk
theorem OwX.keepF {gs : List Sw.Msg} (h : OwX fp τ w lo A c n gs) (hk : KF lo w w') : OwX fp τ w' lo A c n gs := h.keep (.of hk) fun _ => .of hk
theorem OwW.keepF {aF : Option Addr} {aFc aFn : Nat} {aL : Option Addr} {aLc aLn : Nat} {aP : Option Addr} {aPc aPn : Nat} {aD : Option Addr} {aDc aDn : Nat} {aN : Option Addr} {aNc aNn : Nat} {aS : Option Addr} {aSc aSn : Nat} {aI : Option Addr} {aIc aIn : Nat} {aG : Option Addr} {aGc aGn : Nat} {aB : Option Addr} {aBc aBn : Nat} {x : Sw.World} (h : OwW fd fp τ w lo aF aFc aFn aL aLc aLn aP aPc aPn aD aDc aDn aN aNc aNn aS aSc aSn aI aIc aIn aG aGc aGn aB aBc aBn x) (hk : KF lo w w') : OwW fd fp τ w' lo aF aFc aFn aL aLc aLn aP aPc aPn aD aDc aDn aN aNc aNn aS aSc aSn aI aIc aIn aG aGc aGn aB aBc aBn x := ⟨h.1.keepF hk, h.2.keepF hk, h.3.keepF hk, h.4.keepF hk, h.5.keepF hk⟩
theorem OwM.glueL {aL : Option Addr} {aLc aLn : Nat} {aP : Option Addr} {aPc aPn : Nat} {aD : Option Addr} {aDc aDn : Nat} {aN : Option Addr} {aNc aNn : Nat} {aS : Option Addr} {aSc aSn : Nat} {m : Sw.Mkt} (h : OwM τ w lo aL aLc aLn aP aPc aPn aD aDc aDn aN aNc aNn aS aSc aSn m) (hk : w.heap.size ≤ k) : OwM (glue τ k τ') w lo aL aLc aLn aP aPc aPn aD aDc aDn aN aNc aNn aS aSc aSn m := h.retag fun b hb => if_pos (by omega)
theorem OwG.glueL {gs : List Sw.Gate} (h : OwG fd τ w lo A c n gs) (hk : w.heap.size ≤ k) : OwG fd (glue τ k τ') w lo A c n gs := h.retag fun b hb => if_pos (by omega)
theorem OwX.glueL {gs : List Sw.Msg} (h : OwX fp τ w lo A c n gs) (hk : w.heap.size ≤ k) : OwX fp (glue τ k τ') w lo A c n gs := h.retag fun b hb => if_pos (by omega)
theorem OwT.rs0 (h : OwT enc sz e τ t w lo A c n xs) (hk : KF lo w w') : Rs enc sz w' 0 A c n xs := h.rs.at0 hk
end
end Go.Proofs.YtnnoiagommiapaaGreat
namespace Go.Proofs.YtnnoiagommiapaaGreat
open Go.RowKit Go
set_option maxHeartbeats 16000000
def sliceLen : Value → Nat
 | .slice _ n _ => n
 | _ => 0
theorem Ints.ex {w w' : World} {g n : Nat} (hb : Ex w w') (h : Ints w g n) : Ints w' g n := h.ch hb (fun h => h)
set_option maxHeartbeats 1000000
theorem upR_ok : ∀ (l : List Int) (n i : Nat) (leaf : Int), Sw.mixOk leaf = true → l.all Sw.mixOk = true → Sw.mixOk (Sw.upR n i leaf l).1 = true
 | [], n, i, leaf, h, _ => by
   unfold Sw.upR
   split
   · exact h
   · rfl
 | y :: l, n, i, leaf, h, ha => by
   unfold Sw.upR
   split
   · exact h
   · split <;> exact pair_ok _ _
theorem sUp_c (N : Nat) (A : Option Addr) (c n m k : Nat) (leaf : Int) (xs : List Int) (w : World) (hN : n ≤ N) (hxs : RI w 0 A c n xs) (h40 : n ≤ 40) (hall : xs.all Sw.mixOk = true) (hleaf : Sw.mixOk leaf = true) (hm : 1 ≤ m) (hk : k < m) (hm40 : m ≤ 40) : Calls Tryz.prog 302 #[.int .i64 m, .int .i64 k, .int .i64 leaf, .slice A n c] w fun E w' => E = .returned (.tuple #[.int .i64 (Sw.upR m k leaf xs.reverse).1, .bool (Sw.upR m k leaf xs.reverse).2]) ∧ Ex w w' := by
 induction N generalizing A c n m k xs w with
 | zero =>
   have hl := hxs.1
   obtain rfl : n = 0 := by omega
   have hx : xs = [] := List.eq_nil_of_length_eq_zero (by omega)
   subst hx
   clear hl
   by_cases h1 : m = 1
   · subst h1
     go_enter Tryz.func302, Tryz.ntmps302
     go_wp2_with fail
     go_ret2
     exact ⟨by simp [Sw.upR], ext_⟩
   · have hb : ((m : Int) == 1) = false := by simp; omega
     have hb2 : decide ((m : Int) < 2) = false := by simp; omega
     go_enter Tryz.func302, Tryz.ntmps302
     go_wp2_with fail
     go_ret2
     exact ⟨by simp [Sw.upR, show ¬ m ≤ 1 by omega], ext_⟩
 | succ N ih =>
   have hl := Lib.hid hxs.1
   have hcap := hxs.2.le
   by_cases h0 : n = 0
   · subst h0
     have hx : xs = [] := List.eq_nil_of_length_eq_zero (by have := hl.out; omega)
     subst hx
     exact ih _ c 0 m k [] w (by omega) hxs (by omega) hall hm hk hm40
   · obtain ⟨p, rfl⟩ : ∃ p, n = p + 1 := ⟨n - 1, by omega⟩
     obtain ⟨g, off, y, rfl, hg0, hg, hd, hy, hc⟩ := at_I hxs (show p < p + 1 by omega)
     have hrev := rev_snoc (by have := hl.out; omega) hy
     have hyok : Sw.mixOk y = true := List.all_eq_true.1 hall y (List.mem_of_getElem? hy)
     rw [hrev]
     have Hy := Lib.hid hy
     clear hd hy hrev
     have w1 : IntKind.i64.wrap ((p : Int) + 1 - 1) = p := by rw [IntWalk.i64_in _ (by omega)]; omega
     have tp : (p : Int) < (p : Int) + 1 := by omega
     have hb0 : ((p : Int) + 1 == 0) = false := by simp; omega
     have hb1 : decide ((p : Int) < 0) = false := by simp
     by_cases h1 : m = 1
     · subst h1
       go_enter Tryz.func302, Tryz.ntmps302
       go_wp2_with fail
       go_ret2
       exact ⟨by simp [Sw.upR], ext_⟩
     · have h2 : 2 ≤ m := by omega
       have hs1 := Sw.split_lt h2
       have hs0 := Sw.split_pos m
       have hb : ((m : Int) == 1) = false := by simp; omega
       have hb2 : decide ((m : Int) < 2) = false := by simp; omega
       have hal := List.all_take (k := p) hall
       have hal' : (xs.take p).reverse.all Sw.mixOk = true := by rw [List.all_reverse]; exact hal
       by_cases hms : k < Sw.split m
       · have hms' : (k : Int) < (Sw.split m : Int) := by omega
         have e : Sw.upR m k leaf (y :: (xs.take p).reverse) = (Sw.pair (Sw.upR (Sw.split m) k leaf (xs.take p).reverse).1 y, (Sw.upR (Sw.split m) k leaf (xs.take p).reverse).2) := by
           rw [Sw.upR, if_neg (by omega), if_pos hms]
         have xok := upR_ok (xs.take p).reverse (Sw.split m) k leaf hleaf hal'
         rw [e]; clear e
         go_enter Tryz.func302, Tryz.ntmps302
         go_wp2_with (first | (go_at_call 272; apply Calls.mono; apply sTreSplit_c; (first | assumption | omega); (first | assumption | omega); rintro E w' ⟨rfl, rfl⟩) | (go_at_call 302; apply Calls.mono; apply ih; omega; (apply Rs.at0; apply RI_take hxs; omega; (exact kf_)); omega; exact hal; omega; omega; omega; rintro E w1 ⟨rfl, hb⟩; obtain ⟨hc, hf, hz⟩ := xy hb) | (go_at_call 273; refine (sMixPair_c _ _ _).mono ?_; rintro E w' ⟨rfl, rfl⟩))
         all_goals (try (refine wn_ fun W0 hb0 hc0 hf0 hz0 => ?_; go_region_held3 (fun w' => Held W0 w') ((exact hq_)) ((first | (go_at_call 273; refine (sMixPair_c _ _ _).mono ?_; rintro E w' ⟨rfl, rfl⟩))); all_goals (obtain ⟨hb, hc, hf, hz⟩ := xh (by assumption : Held W0 _))))
         all_goals (try go_wp2)
         go_ret2
         exact ⟨by rw [mixPair_ok xok hyok]; rfl, ext_⟩
       · have hms' : ¬ (k : Int) < (Sw.split m : Int) := by omega
         have y0 : IntKind.i64.wrap ((k : Int) - ↑(Sw.split m)) = ((k - Sw.split m : Nat) : Int) := by rw [IntWalk.i64_in _ (by omega)]; omega
         have y1 : IntKind.i64.wrap ((m : Int) - ↑(Sw.split m)) = ((m - Sw.split m : Nat) : Int) := by rw [IntWalk.i64_in _ (by omega)]; omega
         have e : Sw.upR m k leaf (y :: (xs.take p).reverse) = (Sw.pair y (Sw.upR (m - Sw.split m) (k - Sw.split m) leaf (xs.take p).reverse).1, (Sw.upR (m - Sw.split m) (k - Sw.split m) leaf (xs.take p).reverse).2) := by
           rw [Sw.upR, if_neg (by omega), if_neg hms]
         have xok := upR_ok (xs.take p).reverse (m - Sw.split m) (k - Sw.split m) leaf hleaf hal'
         rw [e]; clear e
         go_enter Tryz.func302, Tryz.ntmps302
         go_wp2_with (first | (go_at_call 272; apply Calls.mono; apply sTreSplit_c; (first | assumption | omega); (first | assumption | omega); rintro E w' ⟨rfl, rfl⟩) | (go_at_call 302; apply Calls.mono; apply ih; omega; (apply Rs.at0; apply RI_take hxs; omega; (exact kf_)); omega; exact hal; omega; omega; omega; rintro E w1 ⟨rfl, hb⟩; obtain ⟨hc, hf, hz⟩ := xy hb) | (go_at_call 273; refine (sMixPair_c _ _ _).mono ?_; rintro E w' ⟨rfl, rfl⟩))
         all_goals (try (refine wn_ fun W0 hb0 hc0 hf0 hz0 => ?_; go_region_held3 (fun w' => Held W0 w') ((exact hq_)) ((first | (go_at_call 273; refine (sMixPair_c _ _ _).mono ?_; rintro E w' ⟨rfl, rfl⟩))); all_goals (obtain ⟨hb, hc, hf, hz⟩ := xh (by assumption : Held W0 _))))
         all_goals (try go_wp2)
         go_ret2
         exact ⟨by rw [mixPair_ok hyok xok]; rfl, ext_⟩
theorem sTreUp_c (nn i leaf : Int) (A : Option Addr) (c n : Nat) (xs : List Int) (w : World) (hxs : RI w 0 A c n xs) : Calls Tryz.prog 288 #[.int .i64 nn, .int .i64 i, .int .i64 leaf, .slice A n c] w fun E w' => E = .returned (.tuple #[.int .i64 ((Sw.treUp nn i leaf xs).getD 0), .bool (Sw.treUp nn i leaf xs).isSome]) ∧ Ex w w' := by
 have hl := Lib.hid hxs.1
 cases g1 : Sw.inR nn 1 40
 case false => have e : Sw.treUp nn i leaf xs = none := by (simp [Sw.treUp, g1])
               rw [e]; go_enter Tryz.func288, Tryz.ntmps288; go_wp2_with (first | (go_at_call 99; refine (l1In_c _ _ _ _).mono ?_; rintro E w' ⟨rfl, rfl⟩)); go_ret2; exact ⟨rfl, ext_⟩
 obtain ⟨n0, n1⟩ := Sw.inR_iff.1 g1
 cases g2 : Sw.inR i 0 (nn - 1)
 case false => have e : Sw.treUp nn i leaf xs = none := by (simp [Sw.treUp, g2])
               rw [e]; go_enter Tryz.func288, Tryz.ntmps288; go_wp2_with (first | (go_at_call 99; refine (l1In_c _ _ _ _).mono ?_; rintro E w' ⟨rfl, rfl⟩)); go_ret2; exact ⟨rfl, ext_⟩
 obtain ⟨i0, i1⟩ := Sw.inR_iff.1 g2
 cases g3 : Sw.mixOk leaf
 case false => have e : Sw.treUp nn i leaf xs = none := by (simp [Sw.treUp, g3])
               rw [e]; go_enter Tryz.func288, Tryz.ntmps288; go_wp2_with (first | (go_at_call 99; refine (l1In_c _ _ _ _).mono ?_; rintro E w' ⟨rfl, rfl⟩) | (go_at_call 179; refine (sMixOk_c _ _).mono ?_; rintro E w' ⟨rfl, rfl⟩)); go_ret2; exact ⟨rfl, ext_⟩
 cases g4 : Sw.treOk xs
 case false => have e : Sw.treUp nn i leaf xs = none := by (simp [Sw.treUp, g4])
               rw [e]; go_enter Tryz.func288, Tryz.ntmps288; go_wp2_with (first | (go_at_call 99; refine (l1In_c _ _ _ _).mono ?_; rintro E w' ⟨rfl, rfl⟩) | (go_at_call 179; refine (sMixOk_c _ _).mono ?_; rintro E w' ⟨rfl, rfl⟩) | (go_at_call 101; apply Calls.mono; apply sTreOk_c; (exact rd_); rintro E w' ⟨rfl, rfl⟩)); go_ret2; exact ⟨rfl, ext_⟩
 obtain ⟨h40, hall⟩ := Sw.treOk_iff.1 g4
 have hn40 : n ≤ 40 := by have := hl.out; omega
 obtain ⟨m, rfl⟩ := Int.eq_ofNat_of_zero_le (show 0 ≤ nn by omega)
 obtain ⟨k, rfl⟩ := Int.eq_ofNat_of_zero_le i0
 have e : Sw.treUp m k leaf xs = if (Sw.upR m k leaf xs.reverse).2 then some (Sw.upR m k leaf xs.reverse).1 else none := by
   simp only [Sw.treUp, g1, g2, g3, g4, Bool.true_and, Sw.up, Int.toNat_natCast]
 rw [e]; clear e
 cases hu : (Sw.upR m k leaf xs.reverse).2
 all_goals
   go_enter Tryz.func288, Tryz.ntmps288
   go_wp2_with (first | (go_at_call 99; refine (l1In_c _ _ _ _).mono ?_; rintro E w' ⟨rfl, rfl⟩) | (go_at_call 179; refine (sMixOk_c _ _).mono ?_; rintro E w' ⟨rfl, rfl⟩) | (go_at_call 101; apply Calls.mono; apply sTreOk_c; (exact rd_); rintro E w' ⟨rfl, rfl⟩) | (go_at_call 302; apply Calls.mono; apply (sUp_c 40); omega; (exact rd_); omega; exact hall; exact g3; omega; omega; omega; rintro E w1 ⟨rfl, hb⟩; obtain ⟨hc, hf, hz⟩ := xy hb))
   go_ret2
   exact ⟨rfl, ext_⟩
theorem sTreCheck_c (r nn i leaf : Int) (A : Option Addr) (c n : Nat) (xs : List Int) (w : World) (hxs : RI w 0 A c n xs) : Calls Tryz.prog 277 #[.int .i64 r, .int .i64 nn, .int .i64 i, .int .i64 leaf, .slice A n c] w fun E w' => E = .returned (.bool (Sw.treCheck r nn i leaf xs)) ∧ Ex w w' := by
 have e : Sw.treCheck r nn i leaf xs = ((Sw.treUp nn i leaf xs).isSome && ((Sw.treUp nn i leaf xs).getD 0 == r)) := by
   unfold Sw.treCheck
   cases Sw.treUp nn i leaf xs with
   | none => rfl
   | some v => rfl
 rw [e]; clear e
 cases hu : (Sw.treUp nn i leaf xs).isSome
 all_goals
   go_enter Tryz.func277, Tryz.ntmps277
   go_wp2_with (first | (go_at_call 288; apply Calls.mono; apply sTreUp_c; (exact rd_); rintro E w1 ⟨rfl, hb⟩; obtain ⟨hc, hf, hz⟩ := xy hb))
   all_goals (go_ret; exact ⟨ret_b (by simp [*]), ext_⟩)
theorem sOwnCheck_c (root t : Int) (r : Sw.Row) (A : Option Addr) (c n : Nat) (xs : List Int) (w : World) (hxs : RI w 0 A c n xs) : Calls Tryz.prog 250 #[.int .i64 root, .int .i64 t, .agg #[.int .i64 r.who, .int .i64 r.face, .bool r.used], .slice A n c] w fun E w' => E = .returned (.bool (Sw.ownCheck root t r xs)) ∧ Ex w w' := by
 cases g1 : Sw.inR t 0 7
 all_goals
   go_enter Tryz.func250, Tryz.ntmps250
   go_wp2_with (first | (go_at_call 99; refine (l1In_c _ _ _ _).mono ?_; rintro E w' ⟨rfl, rfl⟩) | (go_at_call 278; refine (sOwnLeaf_c _ _ _).mono ?_; rintro E w1 ⟨rfl, hb⟩; obtain ⟨hc, hf, hz⟩ := xy hb) | (go_at_call 277; apply Calls.mono; apply sTreCheck_c; (exact rd_); rintro E w1 ⟨rfl, hb⟩; obtain ⟨hc, hf, hz⟩ := xy hb))
   all_goals (go_ret; exact ⟨ret_b (by simp [Sw.ownCheck, g1]), ext_⟩)
end Go.Proofs.YtnnoiagommiapaaGreat
